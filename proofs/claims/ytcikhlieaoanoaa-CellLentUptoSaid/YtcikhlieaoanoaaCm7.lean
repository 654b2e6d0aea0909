/-
  Laid together by merge.py: CellL19.
-/
import Derived.Test.YtcikhlieaoanoaaCm6
import Derived.Test.YtcikhlieaoanoaaCm4
import Derived.Test.YtcikhlieaoanoaaCm5

/-
  CellLent, walked. (Printed by gen_lentc.py.)
-/
namespace Go.Proofs.Ytcikhlieaoanoaa
open Go.RowKit

/-- What is kept of one entry; of any bytes. -/
def lentE (e : Ent) : List (List UInt8) := [(KeyE e).1, (PackE e).1, (StartE e.row).1, (BehindE e.row).1, (ParseKeyE (KeyE e).1).1.row, (ParseKeyE (KeyE e).1).1.qual, (ParseKeyE (KeyE e).1).1.val, (UnpackE (PackE e).1 0).1.row, (UnpackE (PackE e).1 0).1.qual, (UnpackE (PackE e).1 0).1.val]
def lentA (b : List UInt8) (a : Int) : List (List UInt8) := [(ParseKeyE b).1.row, (ParseKeyE b).1.qual, (ParseKeyE b).1.val, (UnpackE b a).1.row, (UnpackE b a).1.qual, (UnpackE b a).1.val]
def lentP (a b : Ent) : Nat → List (List UInt8)
  | 0 => []
  | 1 => lentE a
  | _ => lentE a ++ lentE b
def lentC (a b : Ent) (l : List UInt8) (z : Int) : List (List UInt8) := lentP a b 2 ++ lentA l z
theorem lent_lenE (e : Ent) : ∀ l, l ∈ lentE e → l.length ≤ 1000000 := by
  have h1 := keys_len e
  have h2 := start_len e.row
  have h3 := behind_len e.row
  have h4 := parse_len (KeyE e).1
  have h5 := unpack_len (PackE e).1 0
  intro l hl
  simp only [lentE, List.mem_cons, List.not_mem_nil, or_false] at hl
  rcases hl with rfl | rfl | rfl | rfl | rfl | rfl | rfl | rfl | rfl | rfl <;> omega
theorem lent_len (a b : Ent) (l : List UInt8) (z : Int) : (lentC a b l z).length = 26 ∧ ∀ k, k ∈ lentC a b l z → k.length ≤ 16777216 := by
  refine ⟨rfl, fun k hk => ?_⟩
  rcases List.mem_append.1 hk with hk | hk
  · rcases List.mem_append.1 (show k ∈ lentE a ++ lentE b from hk) with hk | hk
    · have := lent_lenE a k hk; omega
    · have := lent_lenE b k hk; omega
  · have h4 := parse_len l
    have h5 := unpack_len l z
    simp only [lentA, List.mem_cons, List.not_mem_nil, or_false] at hk
    rcases hk with rfl | rfl | rfl | rfl | rfl | rfl <;> omega
/-- Between two rounds. -/
def LentR (w wr : World) (CS : List (List UInt8)) (os : List Ob) (q : Nat) (k p : Value) : Prop :=
  (q ≤ 2 ∧ p = .pointer none ∧ ∃ g, k = .pointer (some ⟨g, 0, none⟩) ∧ KB w wr g (List.replicate q CS).flatten [] os) ∨
  (q = 3 ∧ ∃ g1 g lv wv rs cs, p = .pointer (some ⟨g1, 0, none⟩) ∧ k = .pointer (some ⟨g, 0, none⟩) ∧ KB w wr g CS [] (os ++ bookO g1 lv wv (markR rs) cs) ∧ rs.map (·.2.2) = CS ++ CS)
/-- Within a round. -/
def LentM (w wx : World) (CS : List (List UInt8)) (os : List Ob) (q : Nat) (k p n : Value) : Prop :=
  ∃ g KS fr, k = .pointer (some ⟨g, 0, none⟩) ∧ n = .int .i64 (KS.length : Nat) ∧ KB w wx g KS [] (os ++ fr) ∧
    ((q < 2 ∧ KS = (List.replicate q CS).flatten ∧ p = .pointer none ∧ fr = []) ∨
      (q = 2 ∧ KS = [] ∧ ∃ g1 lv wv rs cs, p = .pointer (some ⟨g1, 0, none⟩) ∧ fr = bookO g1 lv wv (markR rs) cs ∧ rs.map (·.2.2) = CS ++ CS ∧ cs.map (·.2.2) = CS ++ CS))
theorem lent_two {CS : List (List UInt8)} {q : Nat} (h : q < 2) : ((List.replicate q CS).flatten = [] ∨ (List.replicate q CS).flatten = CS) ∧ (List.replicate q CS).flatten ++ CS = (List.replicate (q + 1) CS).flatten := by
  match q, h with
  | 0, _ => simp
  | 1, _ => simp
theorem lent_pre {CS KS : List (List UInt8)} {q : Nat} (hq : q < 2) (hK : KS = (List.replicate q CS).flatten) {j : Nat} {l : List UInt8} (h : CS[j]? = some l) : (KS ++ CS)[j]? = some l := by
  subst hK
  rcases (lent_two (CS := CS) hq).1 with e | e <;> rw [e]
  · exact h
  · rw [List.getElem?_append_left (List.getElem?_eq_some_iff.1 h).1]; exact h
theorem Try.ents7 : SliceOf Try.prog 67 27 7 104 := SliceOf.mk' (z := .agg zeroL.toArray) Try.underlying67 (by kernel_rfl) rfl (by decide)

set_option maxRecDepth 100000 in
set_option maxHeartbeats 16000000 in
theorem lentC_any (a b : Ent) (any : List UInt8) (A1 : Option Addr) (n1 c1 : Nat) (B1 : Option Addr) (m1 d1 : Nat) (D1 : Option Addr) (v1 q1 : Nat) (A2 : Option Addr) (n2 c2 : Nat) (B2 : Option Addr) (m2 d2 : Nat) (D2 : Option Addr) (v2 q2 : Nat) (A0 : Option Addr) (n0 c0 : Nat) (z : Int) (w : World) (h1 : En w A1 n1 c1 B1 m1 d1 D1 v1 q1 a) (h2 : En w A2 n2 c2 B2 m2 d2 D2 v2 q2 b) (hs : Sl w A0 n0 c0 any) (hn : n0 ≤ 1048576) :
    Calls Try.prog 11 #[entV A1 n1 c1 B1 m1 d1 D1 v1 q1 a, entV A2 n2 c2 B2 m2 d2 D2 v2 q2 b, .slice A0 n0 c0, .int .i64 z] w fun r w' => r = .returned (.bool true) ∧ Below w.heap.size w w' := by
  have H1 := Lib.hid h1
  have H2 := Lib.hid h2
  have HA := Lib.hid hs
  obtain ⟨CS, hCS⟩ : ∃ C, C = lentC (cutE a) (cutE b) any z := ⟨_, rfl⟩
  have HCS := Lib.hid hCS
  have HCL : Hid (CS.length = 26 ∧ ∀ k, k ∈ CS → k.length ≤ 16777216) := Lib.hid (by rw [hCS]; exact lent_len _ _ _ _)
  clear h1 h2 hs hCS
  unfold entV
  have HO := Lib.hid (OW.nil w)
  go_enter Try.func11, Try.ntmps11
  go_wp2_with (first
    | (refine wl_box rfl (.tmp 0) rfl (entL A1 n1 c1 B1 m1 d1 D1 v1 q1 a) rfl HO.out ?_; intro ga xa hz _; replace HO := Lib.hid hz; clear hz)
    | (refine wl_box rfl (.tmp 1) rfl (entL A2 n2 c2 B2 m2 d2 D2 v2 q2 b) rfl HO.out ?_; intro gb xb hz _; replace HO := Lib.hid hz; clear hz)
    | (refine wl_box rfl (.tmp 35) rfl [.slice none 0 0, .slice none 0 0] rfl HO.out ?_; intro g0 x0 hz _; have HX := Lib.hid (KB.new hz); clear hz HO))
  go_loopw [9, 10, 11] (fun k p i wr => ∃ q : Nat, q ≤ 3 ∧ i = .int .i64 q ∧ Hid (LentR w wr CS [boxO ga (entL A1 n1 c1 B1 m1 d1 D1 v1 q1 a), boxO gb (entL A2 n2 c2 B2 m2 d2 D2 v2 q2 b)] q k p)) (fun _ _ i _ => 3 - (intOf i).toNat)
  case atStart => exact ⟨0, by omega, rfl, Lib.hid (.inl ⟨by omega, rfl, g0, rfl, HX.out⟩)⟩
  case round =>
    obtain ⟨q, hq, rfl, HL⟩ := hrel
    clear HX
    by_cases hlt : q < 3
    case neg =>
      have hd : decide ((q : Int) < 3) = false := decide_eq_false (by omega)
      rcases HL.out with ⟨h, _⟩ | ⟨_, g1, g, lv, wv, rs, cs, rfl, rfl, hkb, hrs⟩
      · omega
      have HX := Lib.hid hkb
      have HRS := Lib.hid hrs
      have HCC : Hid ((CS ++ CS).length ≤ 1000000 ∧ ∀ k, k ∈ CS ++ CS → k.length ≤ 16777216) := Lib.hid ⟨by rw [List.length_append, HCL.out.1]; omega, fun k hk => by
        rcases List.mem_append.1 hk with h | h <;> exact HCL.out.2 k h⟩
      clear hkb hrs HL
      go_wp2_with (first
        | (go_at_call 41; go_must (refine (settle_kb HX.out (by rw [HCL.out.1]; omega) HCL.out.2).mono ?_); rintro r x1 ⟨rfl, lv', wv', rs', cs', hz, _, _⟩; have HY := Lib.hid hz; clear hz)
        | (go_at_call 45; go_must (refine (settled_kb2 (OW.right (OW.right HY.out)) HRS.out HCC.out.1 HCC.out.2).mono ?_); rintro r x2 ⟨rfl, rfl⟩)
        | (go_at_call 12; go_must (refine (told_any _).mono ?_); rintro r x3 ⟨rfl, hb⟩; have HB := Lib.hid (below_up HY.out.up hb); clear hb))
      go_ret
      exact ⟨rfl, HB.out⟩
    have hd : decide ((q : Int) < 3) = true := decide_eq_true (by omega)
    obtain ⟨hq2, rfl, g, rfl, hkb⟩ : q ≤ 2 ∧ u10 = .pointer none ∧ ∃ g, u9 = .pointer (some ⟨g, 0, none⟩) ∧ KB w wr g (List.replicate q CS).flatten [] [boxO ga (entL A1 n1 c1 B1 m1 d1 D1 v1 q1 a), boxO gb (entL A2 n2 c2 B2 m2 d2 D2 v2 q2 b)] := by
      rcases HL.out with h | ⟨h, _⟩
      · exact h
      · omega
    have HX := Lib.hid hkb
    clear hkb HL
    obtain ⟨⟨LA, ln, lc, hl⟩, _⟩ := HX.out.lsts
    have x0 := (hl.2 wr (Below.refl _ _)).1
    have HLN := Lib.hid hl.1
    clear hl
    have HS2 : Hid (∀ h : q = 2, (List.replicate q CS).flatten = CS ++ CS) := Lib.hid fun h => by subst h; simp
    have HC2 : Hid ((CS ++ CS).length ≤ 1000000 ∧ ∀ k, k ∈ CS ++ CS → k.length ≤ 16777216) := Lib.hid ⟨by rw [List.length_append, HCL.out.1]; omega, fun k hk => by
      rcases List.mem_append.1 hk with h | h <;> exact HCL.out.2 k h⟩
    go_upto_if 47 with fail
    go_cut [9, 10, 12] (fun k p n wx => Hid (LentM w wx CS [boxO ga (entL A1 n1 c1 B1 m1 d1 D1 v1 q1 a), boxO gb (entL A2 n2 c2 B2 m2 d2 D2 v2 q2 b)] q k p n))
    case first =>
      by_cases h2 : q = 2
      case pos =>
        have hd2 : ((q : Int) == 2) = true := by subst h2; rfl
        have HX2 : Hid (KB w wr g (CS ++ CS) [] [boxO ga (entL A1 n1 c1 B1 m1 d1 D1 v1 q1 a), boxO gb (entL A2 n2 c2 B2 m2 d2 D2 v2 q2 b)]) := Lib.hid (by have := HX.out; rwa [HS2.out h2] at this)
        have H22 := Lib.hid h2
        clear HX h2
        go_wp2_with (first
          | (refine wl_box rfl (.tmp 49) rfl [.slice none 0 0, .slice none 0 0] rfl (OW.nil wr) ?_; intro g2 x1 hz _; replace HX2 := Lib.hid (HX2.out.add (us := [boxO g2 [.slice none 0 0, .slice none 0 0]]) hz); clear hz x0)
          | (go_at_call 41; go_must (refine (settle_kb HX2.out HC2.out.1 HC2.out.2).mono ?_); rintro r x2 ⟨rfl, lv, wv, rs, cs, hz, hr, hc⟩; have HY : Hid (LentM w x2 CS [boxO ga (entL A1 n1 c1 B1 m1 d1 D1 v1 q1 a), boxO gb (entL A2 n2 c2 B2 m2 d2 D2 v2 q2 b)] q (.pointer (some ⟨g2, 0, none⟩)) (.pointer (some ⟨g, 0, none⟩)) (.int .i64 0)) := Lib.hid ⟨g2, [], _, rfl, rfl, KB.next hz, .inr ⟨H22.out, rfl, g, lv, wv, rs, cs, rfl, rfl, hr, hc⟩⟩; clear hz hr hc))
        go_meet
        exact HY
      have hd2 : ((q : Int) == 2) = false := beq_eq_false_iff_ne.2 (by omega)
      go_wp2_with fail
      go_meet
      exact Lib.hid ⟨g, _, [], rfl, by rw [HLN.out], HX.out, .inl ⟨by omega, rfl, rfl, rfl⟩⟩
    clear HX x0 HLN HS2
    obtain ⟨g, KS, fr, rfl, rfl, hkb, hm⟩ := hcut.out
    have HX : Hid (KB w wc g KS [] (boxO ga (entL A1 n1 c1 B1 m1 d1 D1 v1 q1 a) :: boxO gb (entL A2 n2 c2 B2 m2 d2 D2 v2 q2 b) :: fr)) := Lib.hid hkb
    have HM := Lib.hid hm
    obtain ⟨N0, hN0⟩ : ∃ N, N = KS.length := ⟨_, rfl⟩
    rw [← hN0]
    have HN0 := Lib.hid hN0
    have HKL : Hid (KS.length ≤ 26) := Lib.hid (by
      rcases hm with ⟨h1, h2, _⟩ | ⟨_, h2, _⟩
      · rw [h2]; rcases (lent_two (CS := CS) h1).1 with e | e <;> rw [e]
        · simp
        · rw [HCL.out.1]; omega
      · rw [h2]; simp)
    obtain ⟨ea, hea⟩ : ∃ e, e = cutE a := ⟨_, rfl⟩
    obtain ⟨eb, heb⟩ : ∃ e, e = cutE b := ⟨_, rfl⟩
    have HEA := Lib.hid hea
    have HEB := Lib.hid heb
    have HLA : Hid (ea.row.length ≤ 5000 ∧ ea.qual.length ≤ 5000 ∧ ea.val.length ≤ 5000) := Lib.hid (by rw [hea]; exact cutE_len a)
    have HLB : Hid (eb.row.length ≤ 5000 ∧ eb.qual.length ≤ 5000 ∧ eb.val.length ≤ 5000) := Lib.hid (by rw [heb]; exact cutE_len b)
    have HCE : Hid (CS = lentP ea eb 2 ++ lentA any z) := Lib.hid (by rw [HCS.out, hea, heb]; rfl)
    clear hkb hm hcut hN0 hea heb HC2
    go_wp2
    refine lt_start [] (by kernel_rfl) ?_
    intro xd hd0
    replace HX := Lib.hid (HX.out.later hd0)
    clear hd0
    refine ⟨fun z => Below xd.heap.size xd z, ?_⟩
    have HS := Lib.hid (Below.refl xd.heap.size xd)
    refine lt_take 0 [1, 3, 4, 5] rfl (by kernel_rfl) (by kernel_rfl) (by kernel_rfl) (by kernel_rfl) (by kernel_rfl) (fun _ _ _ h => h) (yi_row rfl rfl rfl (fun w hS => (HX.out.later hS).rest.range (i := 0) rfl) ent_row) HS.out ?_
    simp only [Act.put, List.setIfInBounds_toArray, List.set_cons_zero, List.set_cons_succ]
    refine lt_take 2 [3, 4, 5] rfl (by kernel_rfl) (by kernel_rfl) (by kernel_rfl) (by kernel_rfl) (by kernel_rfl) (fun _ _ _ h => h) (yi_row rfl rfl rfl (fun w hS => (HX.out.later hS).rest.range (i := 1) rfl) ent_row) HS.out ?_
    simp only [Act.put, List.setIfInBounds_toArray, List.set_cons_zero, List.set_cons_succ]
    refine lt_call 1 rfl (by kernel_rfl) rfl rfl ⟨_, Try.func21, by decide, by kernel_rfl⟩ [.agg (entL A1 n1 c1 B1 m1 d1 D1 v1 q1 a).toArray] rfl ?_
    refine (entry_any a A1 n1 c1 B1 m1 d1 D1 v1 q1 _ (H1.out.later HX.out.up)).mono ?_
    rw [← HEA.out]
    rintro r x1 ⟨Aa, ca, Ba, da, Da, qa, rfl, hr, hb⟩
    replace HS := Lib.hid (below_up HS.out hb)
    replace HX := Lib.hid (HX.out.rows hb hr)
    clear hr hb
    refine ⟨_, rfl, fun _ => HS.out, ?_⟩
    simp only [Act.put, List.setIfInBounds_toArray, List.set_cons_zero, List.set_cons_succ]
    refine lt_call 3 rfl (by kernel_rfl) rfl rfl ⟨_, Try.func21, by decide, by kernel_rfl⟩ [.agg (entL A2 n2 c2 B2 m2 d2 D2 v2 q2 b).toArray] rfl ?_
    refine (entry_any b A2 n2 c2 B2 m2 d2 D2 v2 q2 _ (H2.out.later HX.out.up)).mono ?_
    rw [← HEB.out]
    rintro r x2 ⟨Ab, cb, Bb, db, Db, qb, rfl, hr, hb⟩
    replace HS := Lib.hid (below_up HS.out hb)
    replace HX := Lib.hid (HX.out.rows hb hr)
    clear hr hb
    refine ⟨_, rfl, fun _ => HS.out, ?_⟩
    simp only [Act.put, List.setIfInBounds_toArray, List.set_cons_zero, List.set_cons_succ]
    refine lt_op 4 rfl (by kernel_rfl) rfl ?_
    refine wpo_build rfl ((entL Aa ea.row.length ca Ba ea.qual.length da Da ea.val.length qa ea) ++ (entL Ab eb.row.length cb Bb eb.qual.length db Db eb.val.length qb eb)).toArray Try.ents7 (.agg zeroL.toArray) ent_zero (by decide) (by decide) (by decide) rfl (by kernel_rfl) (OW.nil _) ?_
    intro gl x3 hz hb
    replace HX := Lib.hid (HX.out.add (us := [rowO 27 7 (.slice (some ⟨gl, 0, none⟩) 2 2) 2 ((entL Aa ea.row.length ca Ba ea.qual.length da Da ea.val.length qa ea) ++ (entL Ab eb.row.length cb Bb eb.qual.length db Db eb.val.length qb eb))]) hz)
    replace HS := Lib.hid (HS.out.trans (hb.mono HS.out.size))
    clear hz hb
    refine ⟨fun _ => HS.out, ?_⟩
    simp only [Act.put, List.setIfInBounds_toArray, List.set_cons_zero, List.set_cons_succ]
    refine lt_pure 5 rfl (by kernel_rfl) (by kernel_rfl) (by kernel_rfl) (by kernel_rfl) (fun _ _ _ h => h) (v := ?_) (yi_run rfl (fun w => ?_)) (fun _ => HS.out) ?_
    rotate_left
    · first | (go_simp; done) | (go_simp; with_reducible rfl)
    simp only [Act.put, List.setIfInBounds_toArray, List.set_cons_zero, List.set_cons_succ]
    refine lt_done (by kernel_rfl) ?_
    clear HS
    have HXL : Hid (KB w x3 g KS [] (rowO 27 7 (.slice (some ⟨gl, 0, none⟩) 2 2) 2 ((entL Aa ea.row.length ca Ba ea.qual.length da Da ea.val.length qa ea) ++ (entL Ab eb.row.length cb Bb eb.qual.length db Db eb.val.length qb eb)) :: bytO 5 (Ab, cb, eb.row ++ mkL 70) :: bytO 5 (Bb, db, eb.qual ++ mkL 70) :: bytO 5 (Db, qb, eb.val ++ mkL 70) :: bytO 5 (Aa, ca, ea.row ++ mkL 70) :: bytO 5 (Ba, da, ea.qual ++ mkL 70) :: bytO 5 (Da, qa, ea.val ++ mkL 70) :: boxO ga (entL A1 n1 c1 B1 m1 d1 D1 v1 q1 a) :: boxO gb (entL A2 n2 c2 B2 m2 d2 D2 v2 q2 b) :: fr)) := Lib.hid HX.out
    clear HX
    obtain ⟨osl, hosl⟩ : ∃ l, l = (rowO 27 7 (.slice (some ⟨gl, 0, none⟩) 2 2) 2 ((entL Aa ea.row.length ca Ba ea.qual.length da Da ea.val.length qa ea) ++ (entL Ab eb.row.length cb Bb eb.qual.length db Db eb.val.length qb eb)) :: bytO 5 (Ab, cb, eb.row ++ mkL 70) :: bytO 5 (Bb, db, eb.qual ++ mkL 70) :: bytO 5 (Db, qb, eb.val ++ mkL 70) :: bytO 5 (Aa, ca, ea.row ++ mkL 70) :: bytO 5 (Ba, da, ea.qual ++ mkL 70) :: bytO 5 (Da, qa, ea.val ++ mkL 70) :: boxO ga (entL A1 n1 c1 B1 m1 d1 D1 v1 q1 a) :: boxO gb (entL A2 n2 c2 B2 m2 d2 D2 v2 q2 b) :: fr) := ⟨_, rfl⟩
    have HX : Hid (KB w x3 g KS [] osl) := Lib.hid (by rw [hosl]; exact HXL.out)
    have HF : Hid (∀ y KS ms us, KB w y g KS ms (us ++ osl) → (y.rangeAt gl 0 (entL Aa ea.row.length ca Ba ea.qual.length da Da ea.val.length qa ea) ∧ En y Aa ea.row.length ca Ba ea.qual.length da Da ea.val.length qa ea) ∧ (y.rangeAt gl 7 (entL Ab eb.row.length cb Bb eb.qual.length db Db eb.val.length qb eb) ∧ En y Ab eb.row.length cb Bb eb.qual.length db Db eb.val.length qb eb)) := Lib.hid fun y KS ms us h => by
      have h := h.drop
      rw [hosl] at h
      have h := h.rest
      have hr := h.row (i := 0) rfl
      refine ⟨⟨own_rangeAt hr fun j v hv => ?_, ⟨sl_front (h.sl (i := 4) rfl (by rw [List.length_append, mkL_len])) rfl, sl_front (h.sl (i := 5) rfl (by rw [List.length_append, mkL_len])) rfl, sl_front (h.sl (i := 6) rfl (by rw [List.length_append, mkL_len])) rfl⟩⟩, ⟨own_rangeAt hr fun j v hv => ?_, ⟨sl_front (h.sl (i := 1) rfl (by rw [List.length_append, mkL_len])) rfl, sl_front (h.sl (i := 2) rfl (by rw [List.length_append, mkL_len])) rfl, sl_front (h.sl (i := 3) rfl (by rw [List.length_append, mkL_len])) rfl⟩⟩⟩
      · rw [Nat.zero_add, List.getElem?_append_left (List.getElem?_eq_some_iff.1 hv).1]; exact hv
      · rw [show 7 + j = (entL Aa ea.row.length ca Ba ea.qual.length da Da ea.val.length qa ea).length + j from rfl, List.getElem?_append_right (Nat.le_add_right _ _), Nat.add_sub_cancel_left]; exact hv
    have HOB : Hid (∀ y KS ms us, KB w y g KS ms (us ++ osl) → KB w y g KS ms (boxO ga (entL A1 n1 c1 B1 m1 d1 D1 v1 q1 a) :: boxO gb (entL A2 n2 c2 B2 m2 d2 D2 v2 q2 b) :: fr)) := Lib.hid fun y KS ms us h => by
      have h := h.drop
      rw [hosl] at h
      exact h.sub ((((((((List.Sublist.refl _).cons _).cons _).cons _).cons _).cons _).cons _).cons _)
    clear HXL hosl
    go_wp2_with fail
    obtain ⟨wo, rfl⟩ : ∃ wo : World, wo = wr := ⟨_, rfl⟩
    go_loopw [14] (fun i wr => ∃ c : Nat, c ≤ 2 ∧ i = .int .i64 c ∧ Hid (KB w wr g (KS ++ lentP ea eb c) [] osl)) (fun i _ => 2 - (intOf i).toNat)
    case atStart => exact ⟨0, by omega, rfl, Lib.hid (by rw [show lentP ea eb 0 = [] from rfl, List.append_nil]; exact HX.out)⟩
    case round =>
      clear HX
      obtain ⟨c, hc, rfl, HX⟩ := hrel
      by_cases hlt2 : c < 2
      case neg =>
        have hdc : decide ((c : Int) < 2) = false := decide_eq_false (by omega)
        have HX0 : Hid (KB w wr g (KS ++ lentP ea eb 2) [] osl) := Lib.hid (by
          have e : c = 2 := by omega
          rw [← e]; exact HX.out)
        clear HX hlt2 hc
        obtain ⟨E1, hE1⟩ : ∃ x, x = (ParseKeyE any).1 := ⟨_, rfl⟩
        obtain ⟨z1, hz1⟩ : ∃ x, x = (ParseKeyE any).2 := ⟨_, rfl⟩
        have HP : Hid (ParseKeyE any = (E1, z1)) := Lib.hid (by rw [hE1, hz1])
        obtain ⟨E2, hE2⟩ : ∃ x, x = (UnpackE any z).1 := ⟨_, rfl⟩
        obtain ⟨p2, hp2⟩ : ∃ x, x = (UnpackE any z).2.1 := ⟨_, rfl⟩
        obtain ⟨z2, hz2⟩ : ∃ x, x = (UnpackE any z).2.2 := ⟨_, rfl⟩
        have HU : Hid (UnpackE any z = (E2, p2, z2)) := Lib.hid (by rw [hE2, hp2, hz2])
        have HEL : Hid ((E1.row.length ≤ 140737488355000 ∧ E1.qual.length ≤ 140737488355000 ∧ E1.val.length ≤ 140737488355000) ∧ E2.row.length ≤ 140737488355000 ∧ E2.qual.length ≤ 140737488355000 ∧ E2.val.length ≤ 140737488355000) := Lib.hid (by
          rw [hE1, hE2]
          have h4 := parse_len any
          have h5 := unpack_len any z
          omega)
        have HKE : Hid (KS ++ CS = KS ++ lentP ea eb 2 ++ [E1.row, E1.qual, E1.val] ++ [E2.row, E2.qual, E2.val]) := Lib.hid (by
          rw [HCE.out]; unfold lentA; rw [hE1, hE2]
          simp only [List.append_assoc, List.cons_append, List.nil_append])
        have HKL2 : Hid ((KS ++ lentP ea eb 2).length ≤ 46) := Lib.hid (by
          rw [List.length_append]
          have := HKL.out
          have h2 : (lentP ea eb 2).length = 20 := rfl
          omega)
        clear hE1 hz1 hE2 hp2 hz2
        have HX := HX0
        clear HX0
        have tk : True := trivial
        go_wp2_with (first | (go_at_call 15; have _t := tk; go_must (refine (parsekey_any any A0 n0 c0 _ (HA.out.later HX.out.up) (by omega)).mono ?_); rw [HP.out]; rintro r y1 ⟨Au, cu, Bu, du, Du, qu, rfl, hr, hb⟩; have hz := HX.out.rows hb hr; simp only [List.map_cons, List.map_nil, List.cons_append, List.nil_append] at hz; replace HX := Lib.hid hz; clear hz hr hb tk) | (refine wl_alloc rfl rfl zeroL (.inl ent_zero) (OW.nil _) ?_; intro gu y2 hz _; replace HX := Lib.hid (HX.out.add (us := [boxO gu zeroL]) hz); clear hz) | (refine wk_put rfl (.tmp 28) (.tmp 131) rfl HX.out 0 rfl rfl (entL Au E1.row.length cu Bu E1.qual.length du Du E1.val.length qu E1) rfl rfl ent_size (entL_one _ _ _ _ _ _ _ _ _ _) ?_; intro y3 hz; replace HX := Lib.hid hz; clear hz))
        have tk : True := trivial
        go_wp2_with (first | (go_at_call 37; have _t := tk; go_must (refine (unpack_any any A0 n0 c0 z _ (HA.out.later HX.out.up) (by omega)).mono ?_); rw [HU.out]; rintro r y4 ⟨Av, cv, Bv, dv, Dv, qv, rfl, hr, hb⟩; have hz := HX.out.rows hb hr; simp only [List.map_cons, List.map_nil, List.cons_append, List.nil_append] at hz; replace HX := Lib.hid hz; clear hz hr hb tk) | (refine wl_alloc rfl rfl zeroL (.inl ent_zero) (OW.nil _) ?_; intro gv y5 hz _; replace HX := Lib.hid (HX.out.add (us := [boxO gv zeroL]) hz); clear hz) | (refine wk_put rfl (.tmp 30) (.tmp 137) rfl HX.out 0 rfl rfl (entL Av E2.row.length cv Bv E2.qual.length dv Dv E2.val.length qv E2) rfl rfl ent_size (entL_one _ _ _ _ _ _ _ _ _ _) ?_; intro y6 hz; replace HX := Lib.hid hz; clear hz) | (refine wpList_load_row7 rfl 27 (.tmp 28) rfl rfl (HX.out.rest.range (i := 4) rfl) ent_row ?_))
        have tk : True := trivial
        go_wp2_with (first | (go_at_call 43; have _t := tk; go_must (refine (entry_kb (i := 5) E1.fam E1.ts E1.seq E1.kind HX.out rfl rfl rfl ⟨rfl, rfl, rfl⟩ HEL.out.1 (by have := HKL2.out; omega)).mono ?_); rintro r y7 ⟨rfl, hz⟩; replace HX := Lib.hid hz; clear hz tk) | (refine wpList_load_row7 rfl 27 (.tmp 30) rfl rfl (HX.out.rest.range (i := 0) rfl) ent_row ?_))
        have tk : True := trivial
        go_wp2_with (first | (go_at_call 43; have _t := tk; go_must (refine (entry_kb (i := 1) E2.fam E2.ts E2.seq E2.kind HX.out rfl rfl rfl ⟨rfl, rfl, rfl⟩ HEL.out.2 (by have := HKL2.out; simp only [List.length_append, List.length_cons, List.length_nil] at this ⊢; omega)).mono ?_); rintro r y8 ⟨rfl, hz⟩; replace HX := Lib.hid hz; clear hz tk))
        have HKK : Hid (KB w y8 g (KS ++ CS) [] (boxO ga (entL A1 n1 c1 B1 m1 d1 D1 v1 q1 a) :: boxO gb (entL A2 n2 c2 B2 m2 d2 D2 v2 q2 b) :: fr)) := Lib.hid (by
          rw [HKE.out]
          exact HOB.out _ _ _ [_, _] HX.out.forget)
        clear HX HOB HF
        have HX := HKK
        clear HKK
        have HKN : Hid ((KS ++ CS).length = N0 + 26) := Lib.hid (by rw [List.length_append, HN0.out, HCL.out.1])
        obtain ⟨gf, KF, HFS, HEQ⟩ : ∃ (gf : Nat) (KF : List (List UInt8)), Hid (((q < 2 ∧ u10 = .pointer none ∧ gf = g) ∨ (q = 2 ∧ u10 = .pointer (some ⟨gf, 0, none⟩)))) ∧ Hid (∀ y, KB w y g (KS ++ CS) [] (boxO ga (entL A1 n1 c1 B1 m1 d1 D1 v1 q1 a) :: boxO gb (entL A2 n2 c2 B2 m2 d2 D2 v2 q2 b) :: fr) → (∃ A n c, Lst y ⟨gf, 1, none⟩ n c A KF) ∧ ∀ (j : Nat) l, CS[j]? = some l → KF[j]? = some l) := by
          rcases HM.out with ⟨h1, h2, h3, h4⟩ | ⟨h1, h2, g1, lv, wv, rs, cs, h3, h4, h5, h6⟩
          · exact ⟨g, KS ++ CS, Lib.hid (.inl ⟨h1, h3, rfl⟩), Lib.hid fun y h => ⟨h.lsts.2, fun j l hj => lent_pre h1 h2 hj⟩⟩
          · refine ⟨g1, CS ++ CS, Lib.hid (.inr ⟨h1, h3⟩), Lib.hid fun y h => ⟨?_, fun j l hj => by rw [List.getElem?_append_left (List.getElem?_eq_some_iff.1 hj).1]; exact hj⟩⟩
            have h7 : OW w (bookO g1 lv wv (markR rs) cs ++ []) y := by
              have := h.rest
              rw [List.append_nil, ← h4]
              exact OW.right (os := [_, _]) this
            obtain ⟨_, A, n, c, _, h8⟩ := book_lst h7 rfl h6
            exact ⟨A, n, c, h8⟩
        obtain ⟨⟨LA, NL, lc, hl⟩, _⟩ := HX.out.lsts
        obtain ⟨⟨AF, NF, cF, hf⟩, hkf⟩ := HEQ.out _ HX.out
        obtain rfl : NL = N0 + 26 := hl.1.trans HKN.out
        have HLC := Lib.hid hl
        have HLF := Lib.hid hf
        have HKF := Lib.hid hkf
        clear hl hf hkf
        have HN26 : Hid (N0 ≤ 26) := Lib.hid (by rw [HN0.out]; exact HKL.out)
        have hN26 := HN26.out
        have HL1 : Hid (∀ y, KB w y g (KS ++ CS) [] (boxO ga (entL A1 n1 c1 B1 m1 d1 D1 v1 q1 a) :: boxO gb (entL A2 n2 c2 B2 m2 d2 D2 v2 q2 b) :: fr) → LentR w y CS [boxO ga (entL A1 n1 c1 B1 m1 d1 D1 v1 q1 a), boxO gb (entL A2 n2 c2 B2 m2 d2 D2 v2 q2 b)] (q + 1) (.pointer (some ⟨g, 0, none⟩)) u10) := Lib.hid fun y h => by
          rcases HM.out with ⟨h1, h2, h3, h4⟩ | ⟨h1, h2, g1, lv, wv, rs, cs, h3, h4, h5, h6⟩
          · refine .inl ⟨by omega, h3, g, rfl, ?_⟩
            rw [← (lent_two h1).2, ← h2]
            rw [h4] at h; exact h
          · refine .inr ⟨by omega, g1, g, lv, wv, rs, cs, h3, rfl, ?_, h5⟩
            rw [h2, h4] at h; exact h
        rcases HFS.out with ⟨hq1, hp, hgf⟩ | ⟨hq1, hp⟩
        · have hgf2 := hgf.symm
          subst hgf2
          subst hp
          have HQ1 := Lib.hid hq1
          clear hq1
          go_wp2_with (go_at_call 44; go_must (refine (untouched_kb HX.out (by rw [HKN.out]; omega)).mono ?_); rintro r y9 ⟨rfl, hb⟩; replace HX := Lib.hid (HX.out.later hb); replace HLC := Lib.hid (HLC.out.later hb); replace HLF := Lib.hid (HLF.out.later hb); clear hb)
          obtain ⟨wl, rfl⟩ : ∃ wl : World, wl = wr := ⟨_, rfl⟩
          go_loopw [34] (fun i wr => ∃ s : Nat, N0 ≤ s ∧ s ≤ N0 + 26 ∧ i = .int .i64 s ∧ Hid (Below y9.heap.size y9 wr)) (fun i _ => N0 + 26 - (intOf i).toNat)
          case atStart => exact ⟨N0, Nat.le_refl _, by omega, rfl, Lib.hid (Below.refl _ _)⟩
          case round =>
            obtain ⟨s, hs0, hs, rfl, HB⟩ := hrel
            have y0 := (HLC.out.2 wr HB.out).1
            by_cases hls : s < N0 + 26
            case neg =>
              have hds : decide ((s : Int) < (N0 : Int) + 26) = false := decide_eq_false (by omega)
              have HEND := Lib.hid (HL1.out wr (HX.out.later HB.out))
              go_wp2_with fail
              go_roundw
              case rel => exact ⟨q + 1, by omega, by go_num, HEND⟩
              case measure => simp [intOf]; omega
            have hds : decide ((s : Int) < (N0 : Int) + 26) = true := decide_eq_true (by omega)
            obtain ⟨t, ht⟩ : ∃ t, s = N0 + t := ⟨s - N0, by omega⟩
            have ht26 : t < 26 := by omega
            obtain ⟨l, hlq⟩ : ∃ l, CS[t]? = some l := ⟨_, List.getElem?_eq_getElem (by rw [HCL.out.1]; exact ht26)⟩
            have hk1 : (KS ++ CS)[s]? = some l := by rw [ht, HN0.out, List.getElem?_append_right (Nat.le_add_right _ _), Nat.add_sub_cancel_left]; exact hlq
            have hk2 := HKF.out t l hlq
            have htF : t < NF := by rw [HLF.out.1]; exact (List.getElem?_eq_some_iff.1 hk2).1
            obtain ⟨b1, o1, a1, e1, rfl, hc1, hs1⟩ := (HLC.out.2 _ (Below.refl _ _)).2 s l hk1
            obtain ⟨b2, o2, a2, e2, rfl, hc2, hs2⟩ := (HLF.out.2 _ (Below.refl _ _)).2 t l hk2
            obtain ⟨ql, hql⟩ : ∃ n, n = l.length := ⟨_, rfl⟩
            rw [← hql] at hc1 hs1 hc2 hs2
            have HC1 : Hid (∀ y, Below y9.heap.size y9 y → y.cell? ⟨g, 0, none⟩ = some (.slice (some ⟨b1, o1, none⟩) (N0 + 26) lc) ∧ y.cell? ⟨b1, o1 + s, none⟩ = some (.slice a1 ql e1) ∧ Sl y a1 ql e1 l) := Lib.hid fun y hy => ⟨(HLC.out.2 y hy).1, cell_below hy hc1, hs1.later hy⟩
            have HC2 : Hid (∀ y, Below y9.heap.size y9 y → y.cell? ⟨g, 1, none⟩ = some (.slice (some ⟨b2, o2, none⟩) NF cF) ∧ y.cell? ⟨b2, o2 + t, none⟩ = some (.slice a2 ql e2) ∧ Sl y a2 ql e2 l) := Lib.hid fun y hy => ⟨(HLF.out.2 y hy).1, cell_below hy hc2, hs2.later hy⟩
            have XQ : Hid (ql ≤ 9223372036854775807) := Lib.hid hs1.le
            have XS : Hid ((l == l) = true) := Lib.hid (by simp)
            have i1 : (0 : Int) ≤ (s : Int) := by omega
            have i2 : (s : Int) < (N0 : Int) + 26 := by omega
            have i3 : (0 : Int) ≤ (t : Int) := by omega
            have i4 : (t : Int) < (NF : Int) := by omega
            have i5 : (s : Int) - (N0 : Int) = (t : Int) := by omega
            have i6 : IntKind.i64.wrap (t : Int) = (t : Int) := IntWalk.i64_in _ (by omega)
            have HT := Lib.hid ht
            clear hc1 hs1 hc2 hs2 hql hk1 hk2 hlq ht
            go_wp2_with fail
            clear y0
            refine lt_start [] (by kernel_rfl) ?_
            intro xd hd0
            refine ⟨fun z => Below y9.heap.size y9 z, ?_⟩
            have HS := Lib.hid (HB.out.trans (hd0.mono HB.out.size))
            refine lt_pure 0 rfl (by kernel_rfl) (by kernel_rfl) (by kernel_rfl) (by kernel_rfl) (fun _ _ _ h => h) (v := ?_) (yi_run rfl (fun w => ?_)) (fun _ => HS.out) ?_
            rotate_left
            · first | (go_simp; done) | (go_simp; with_reducible rfl)
            simp only [Act.put, List.setIfInBounds_toArray, List.set_cons_zero, List.set_cons_succ]
            refine lt_pure 1 rfl (by kernel_rfl) (by kernel_rfl) (by kernel_rfl) (by kernel_rfl) (fun _ _ _ h => h) (v := ?_) (yi_run rfl (fun w => ?_)) (fun _ => HS.out) ?_
            rotate_left
            · first | (go_simp; done) | (go_simp; with_reducible rfl)
            simp only [Act.put, List.setIfInBounds_toArray, List.set_cons_zero, List.set_cons_succ]
            refine lt_pure 2 rfl (by kernel_rfl) (by kernel_rfl) (by kernel_rfl) (by kernel_rfl) (fun _ _ _ h => h) (v := ?_) (yi_run rfl (fun w => ?_)) (fun _ => HS.out) ?_
            rotate_left
            · first | (go_simp; done) | (go_simp; with_reducible rfl)
            simp only [Act.put, List.setIfInBounds_toArray, List.set_cons_zero, List.set_cons_succ]
            refine lt_take 3 [5, 6, 16, 17] rfl (by kernel_rfl) (by kernel_rfl) (by kernel_rfl) (by kernel_rfl) (by kernel_rfl) (fun _ _ _ h => h) (yi_cell rfl rfl rfl (fun w hS => (HC1.out w hS).1) (fun w => Try.isAgg35 w)) HS.out ?_
            simp only [Act.put, List.setIfInBounds_toArray, List.set_cons_zero, List.set_cons_succ]
            refine lt_pure 4 rfl (by kernel_rfl) (by kernel_rfl) (by kernel_rfl) (by kernel_rfl) (fun _ _ _ h => h) (v := ?_) (yi_run rfl (fun w => ?_)) (fun _ => HS.out) ?_
            rotate_left
            · first | (go_simp; done) | (go_simp; with_reducible rfl)
            simp only [Act.put, List.setIfInBounds_toArray, List.set_cons_zero, List.set_cons_succ]
            refine lt_pure 5 rfl (by kernel_rfl) (by kernel_rfl) (by kernel_rfl) (by kernel_rfl) (fun _ _ _ h => h) (v := ?_) (yi_run rfl (fun w => ?_)) (fun _ => HS.out) ?_
            rotate_left
            · first | (go_simp; done) | (go_simp; with_reducible rfl)
            simp only [Act.put, List.setIfInBounds_toArray, List.set_cons_zero, List.set_cons_succ]
            refine lt_take 6 [16, 17] rfl (by kernel_rfl) (by kernel_rfl) (by kernel_rfl) (by kernel_rfl) (by kernel_rfl) (fun _ _ _ h => h) (yi_cell rfl rfl rfl (fun w hS => (HC1.out w hS).2.1) (fun w => Try.isAgg22 w)) HS.out ?_
            simp only [Act.put, List.setIfInBounds_toArray, List.set_cons_zero, List.set_cons_succ]
            refine lt_pure 7 rfl (by kernel_rfl) (by kernel_rfl) (by kernel_rfl) (by kernel_rfl) (fun _ _ _ h => h) (v := ?_) (yi_run rfl (fun w => ?_)) (fun _ => HS.out) ?_
            rotate_left
            · first | (go_simp; done) | (go_simp; with_reducible rfl)
            simp only [Act.put, List.setIfInBounds_toArray, List.set_cons_zero, List.set_cons_succ]
            refine lt_pure 8 rfl (by kernel_rfl) (by kernel_rfl) (by kernel_rfl) (by kernel_rfl) (fun _ _ _ h => h) (v := ?_) (yi_run rfl (fun w => ?_)) (fun _ => HS.out) ?_
            rotate_left
            · first | (go_simp; done) | (go_simp; with_reducible rfl)
            simp only [Act.put, List.setIfInBounds_toArray, List.set_cons_zero, List.set_cons_succ]
            refine lt_pure 9 rfl (by kernel_rfl) (by kernel_rfl) (by kernel_rfl) (by kernel_rfl) (fun _ _ _ h => h) (v := ?_) (yi_run rfl (fun w => ?_)) (fun _ => HS.out) ?_
            rotate_left
            · first | (go_simp; done) | (go_simp; with_reducible rfl)
            simp only [Act.put, List.setIfInBounds_toArray, List.set_cons_zero, List.set_cons_succ]
            refine lt_take 10 [14, 15, 16, 17] rfl (by kernel_rfl) (by kernel_rfl) (by kernel_rfl) (by kernel_rfl) (by kernel_rfl) (fun _ _ _ h => h) (yi_cell rfl rfl rfl (fun w hS => (HC2.out w hS).1) (fun w => Try.isAgg35 w)) HS.out ?_
            simp only [Act.put, List.setIfInBounds_toArray, List.set_cons_zero, List.set_cons_succ]
            refine lt_pure 11 rfl (by kernel_rfl) (by kernel_rfl) (by kernel_rfl) (by kernel_rfl) (fun _ _ _ h => h) (v := ?_) (yi_run rfl (fun w => ?_)) (fun _ => HS.out) ?_
            rotate_left
            · first | (go_simp; done) | (go_simp; with_reducible rfl)
            simp only [Act.put, List.setIfInBounds_toArray, List.set_cons_zero, List.set_cons_succ]
            refine lt_pure 12 rfl (by kernel_rfl) (by kernel_rfl) (by kernel_rfl) (by kernel_rfl) (fun _ _ _ h => h) (v := ?_) (yi_run rfl (fun w => ?_)) (fun _ => HS.out) ?_
            rotate_left
            · first | (go_simp; done) | (go_simp; with_reducible rfl)
            simp only [Act.put, List.setIfInBounds_toArray, List.set_cons_zero, List.set_cons_succ]
            refine lt_pure 13 rfl (by kernel_rfl) (by kernel_rfl) (by kernel_rfl) (by kernel_rfl) (fun _ _ _ h => h) (v := ?_) (yi_run rfl (fun w => ?_)) (fun _ => HS.out) ?_
            rotate_left
            · first | (go_simp; done) | (go_simp; with_reducible rfl)
            simp only [Act.put, List.setIfInBounds_toArray, List.set_cons_zero, List.set_cons_succ]
            refine lt_pure 14 rfl (by kernel_rfl) (by kernel_rfl) (by kernel_rfl) (by kernel_rfl) (fun _ _ _ h => h) (v := ?_) (yi_run rfl (fun w => ?_)) (fun _ => HS.out) ?_
            rotate_left
            · first | (go_simp; done) | (go_simp; with_reducible rfl)
            simp only [Act.put, List.setIfInBounds_toArray, List.set_cons_zero, List.set_cons_succ]
            refine lt_take 15 [16, 17] rfl (by kernel_rfl) (by kernel_rfl) (by kernel_rfl) (by kernel_rfl) (by kernel_rfl) (fun _ _ _ h => h) (yi_cell rfl rfl rfl (fun w hS => (HC2.out w hS).2.1) (fun w => Try.isAgg22 w)) HS.out ?_
            simp only [Act.put, List.setIfInBounds_toArray, List.set_cons_zero, List.set_cons_succ]
            refine lt_call 16 rfl (by kernel_rfl) rfl rfl ⟨_, Try.func30, by decide, by kernel_rfl⟩ [.slice a1 ql e1, .slice a2 ql e2] rfl ?_
            refine (same_any l l a1 a2 ql e1 ql e2 _ XQ.out (HC1.out _ HS.out).2.2.rb (HC2.out _ HS.out).2.2.rb).mono ?_
            rw [XS.out]
            rintro e z9 ⟨rfl, hb⟩
            replace HS := Lib.hid (below_up HS.out hb)
            clear hb
            refine ⟨_, rfl, fun _ => HS.out, ?_⟩
            simp only [Act.put, List.setIfInBounds_toArray, List.set_cons_zero, List.set_cons_succ]
            refine lt_pure 17 rfl (by kernel_rfl) (by kernel_rfl) (by kernel_rfl) (by kernel_rfl) (fun _ _ _ h => h) (v := ?_) (yi_run rfl (fun w => ?_)) (fun _ => HS.out) ?_
            rotate_left
            · first | (go_simp; done) | (go_simp; with_reducible rfl)
            simp only [Act.put, List.setIfInBounds_toArray, List.set_cons_zero, List.set_cons_succ]
            refine lt_done (by kernel_rfl) ?_
            have HS9 := HS
            clear HS
            have HB9 := Lib.hid (HS9.out)
            clear HS9
            go_wp2_with fail
            go_roundw
            case rel => exact ⟨s + 1, by omega, by omega, by go_num, HB9⟩
            case measure => simp [intOf]; omega
        · subst hp
          have HQ1 := Lib.hid hq1
          clear hq1
          go_wp2_with (go_at_call 44; go_must (refine (untouched_kb HX.out (by rw [HKN.out]; omega)).mono ?_); rintro r y9 ⟨rfl, hb⟩; replace HX := Lib.hid (HX.out.later hb); replace HLC := Lib.hid (HLC.out.later hb); replace HLF := Lib.hid (HLF.out.later hb); clear hb)
          obtain ⟨wl, rfl⟩ : ∃ wl : World, wl = wr := ⟨_, rfl⟩
          go_loopw [34] (fun i wr => ∃ s : Nat, N0 ≤ s ∧ s ≤ N0 + 26 ∧ i = .int .i64 s ∧ Hid (Below y9.heap.size y9 wr)) (fun i _ => N0 + 26 - (intOf i).toNat)
          case atStart => exact ⟨N0, Nat.le_refl _, by omega, rfl, Lib.hid (Below.refl _ _)⟩
          case round =>
            obtain ⟨s, hs0, hs, rfl, HB⟩ := hrel
            have y0 := (HLC.out.2 wr HB.out).1
            by_cases hls : s < N0 + 26
            case neg =>
              have hds : decide ((s : Int) < (N0 : Int) + 26) = false := decide_eq_false (by omega)
              have HEND := Lib.hid (HL1.out wr (HX.out.later HB.out))
              go_wp2_with fail
              go_roundw
              case rel => exact ⟨q + 1, by omega, by go_num, HEND⟩
              case measure => simp [intOf]; omega
            have hds : decide ((s : Int) < (N0 : Int) + 26) = true := decide_eq_true (by omega)
            obtain ⟨t, ht⟩ : ∃ t, s = N0 + t := ⟨s - N0, by omega⟩
            have ht26 : t < 26 := by omega
            obtain ⟨l, hlq⟩ : ∃ l, CS[t]? = some l := ⟨_, List.getElem?_eq_getElem (by rw [HCL.out.1]; exact ht26)⟩
            have hk1 : (KS ++ CS)[s]? = some l := by rw [ht, HN0.out, List.getElem?_append_right (Nat.le_add_right _ _), Nat.add_sub_cancel_left]; exact hlq
            have hk2 := HKF.out t l hlq
            have htF : t < NF := by rw [HLF.out.1]; exact (List.getElem?_eq_some_iff.1 hk2).1
            obtain ⟨b1, o1, a1, e1, rfl, hc1, hs1⟩ := (HLC.out.2 _ (Below.refl _ _)).2 s l hk1
            obtain ⟨b2, o2, a2, e2, rfl, hc2, hs2⟩ := (HLF.out.2 _ (Below.refl _ _)).2 t l hk2
            obtain ⟨ql, hql⟩ : ∃ n, n = l.length := ⟨_, rfl⟩
            rw [← hql] at hc1 hs1 hc2 hs2
            have HC1 : Hid (∀ y, Below y9.heap.size y9 y → y.cell? ⟨g, 0, none⟩ = some (.slice (some ⟨b1, o1, none⟩) (N0 + 26) lc) ∧ y.cell? ⟨b1, o1 + s, none⟩ = some (.slice a1 ql e1) ∧ Sl y a1 ql e1 l) := Lib.hid fun y hy => ⟨(HLC.out.2 y hy).1, cell_below hy hc1, hs1.later hy⟩
            have HC2 : Hid (∀ y, Below y9.heap.size y9 y → y.cell? ⟨gf, 1, none⟩ = some (.slice (some ⟨b2, o2, none⟩) NF cF) ∧ y.cell? ⟨b2, o2 + t, none⟩ = some (.slice a2 ql e2) ∧ Sl y a2 ql e2 l) := Lib.hid fun y hy => ⟨(HLF.out.2 y hy).1, cell_below hy hc2, hs2.later hy⟩
            have XQ : Hid (ql ≤ 9223372036854775807) := Lib.hid hs1.le
            have XS : Hid ((l == l) = true) := Lib.hid (by simp)
            have i1 : (0 : Int) ≤ (s : Int) := by omega
            have i2 : (s : Int) < (N0 : Int) + 26 := by omega
            have i3 : (0 : Int) ≤ (t : Int) := by omega
            have i4 : (t : Int) < (NF : Int) := by omega
            have i5 : (s : Int) - (N0 : Int) = (t : Int) := by omega
            have i6 : IntKind.i64.wrap (t : Int) = (t : Int) := IntWalk.i64_in _ (by omega)
            have HT := Lib.hid ht
            clear hc1 hs1 hc2 hs2 hql hk1 hk2 hlq ht
            go_wp2_with fail
            clear y0
            refine lt_start [] (by kernel_rfl) ?_
            intro xd hd0
            refine ⟨fun z => Below y9.heap.size y9 z, ?_⟩
            have HS := Lib.hid (HB.out.trans (hd0.mono HB.out.size))
            refine lt_pure 0 rfl (by kernel_rfl) (by kernel_rfl) (by kernel_rfl) (by kernel_rfl) (fun _ _ _ h => h) (v := ?_) (yi_run rfl (fun w => ?_)) (fun _ => HS.out) ?_
            rotate_left
            · first | (go_simp; done) | (go_simp; with_reducible rfl)
            simp only [Act.put, List.setIfInBounds_toArray, List.set_cons_zero, List.set_cons_succ]
            refine lt_pure 1 rfl (by kernel_rfl) (by kernel_rfl) (by kernel_rfl) (by kernel_rfl) (fun _ _ _ h => h) (v := ?_) (yi_run rfl (fun w => ?_)) (fun _ => HS.out) ?_
            rotate_left
            · first | (go_simp; done) | (go_simp; with_reducible rfl)
            simp only [Act.put, List.setIfInBounds_toArray, List.set_cons_zero, List.set_cons_succ]
            refine lt_pure 2 rfl (by kernel_rfl) (by kernel_rfl) (by kernel_rfl) (by kernel_rfl) (fun _ _ _ h => h) (v := ?_) (yi_run rfl (fun w => ?_)) (fun _ => HS.out) ?_
            rotate_left
            · first | (go_simp; done) | (go_simp; with_reducible rfl)
            simp only [Act.put, List.setIfInBounds_toArray, List.set_cons_zero, List.set_cons_succ]
            refine lt_take 3 [5, 6, 16, 17] rfl (by kernel_rfl) (by kernel_rfl) (by kernel_rfl) (by kernel_rfl) (by kernel_rfl) (fun _ _ _ h => h) (yi_cell rfl rfl rfl (fun w hS => (HC1.out w hS).1) (fun w => Try.isAgg35 w)) HS.out ?_
            simp only [Act.put, List.setIfInBounds_toArray, List.set_cons_zero, List.set_cons_succ]
            refine lt_pure 4 rfl (by kernel_rfl) (by kernel_rfl) (by kernel_rfl) (by kernel_rfl) (fun _ _ _ h => h) (v := ?_) (yi_run rfl (fun w => ?_)) (fun _ => HS.out) ?_
            rotate_left
            · first | (go_simp; done) | (go_simp; with_reducible rfl)
            simp only [Act.put, List.setIfInBounds_toArray, List.set_cons_zero, List.set_cons_succ]
            refine lt_pure 5 rfl (by kernel_rfl) (by kernel_rfl) (by kernel_rfl) (by kernel_rfl) (fun _ _ _ h => h) (v := ?_) (yi_run rfl (fun w => ?_)) (fun _ => HS.out) ?_
            rotate_left
            · first | (go_simp; done) | (go_simp; with_reducible rfl)
            simp only [Act.put, List.setIfInBounds_toArray, List.set_cons_zero, List.set_cons_succ]
            refine lt_take 6 [16, 17] rfl (by kernel_rfl) (by kernel_rfl) (by kernel_rfl) (by kernel_rfl) (by kernel_rfl) (fun _ _ _ h => h) (yi_cell rfl rfl rfl (fun w hS => (HC1.out w hS).2.1) (fun w => Try.isAgg22 w)) HS.out ?_
            simp only [Act.put, List.setIfInBounds_toArray, List.set_cons_zero, List.set_cons_succ]
            refine lt_pure 7 rfl (by kernel_rfl) (by kernel_rfl) (by kernel_rfl) (by kernel_rfl) (fun _ _ _ h => h) (v := ?_) (yi_run rfl (fun w => ?_)) (fun _ => HS.out) ?_
            rotate_left
            · first | (go_simp; done) | (go_simp; with_reducible rfl)
            simp only [Act.put, List.setIfInBounds_toArray, List.set_cons_zero, List.set_cons_succ]
            refine lt_pure 8 rfl (by kernel_rfl) (by kernel_rfl) (by kernel_rfl) (by kernel_rfl) (fun _ _ _ h => h) (v := ?_) (yi_run rfl (fun w => ?_)) (fun _ => HS.out) ?_
            rotate_left
            · first | (go_simp; done) | (go_simp; with_reducible rfl)
            simp only [Act.put, List.setIfInBounds_toArray, List.set_cons_zero, List.set_cons_succ]
            refine lt_pure 9 rfl (by kernel_rfl) (by kernel_rfl) (by kernel_rfl) (by kernel_rfl) (fun _ _ _ h => h) (v := ?_) (yi_run rfl (fun w => ?_)) (fun _ => HS.out) ?_
            rotate_left
            · first | (go_simp; done) | (go_simp; with_reducible rfl)
            simp only [Act.put, List.setIfInBounds_toArray, List.set_cons_zero, List.set_cons_succ]
            refine lt_take 10 [14, 15, 16, 17] rfl (by kernel_rfl) (by kernel_rfl) (by kernel_rfl) (by kernel_rfl) (by kernel_rfl) (fun _ _ _ h => h) (yi_cell rfl rfl rfl (fun w hS => (HC2.out w hS).1) (fun w => Try.isAgg35 w)) HS.out ?_
            simp only [Act.put, List.setIfInBounds_toArray, List.set_cons_zero, List.set_cons_succ]
            refine lt_pure 11 rfl (by kernel_rfl) (by kernel_rfl) (by kernel_rfl) (by kernel_rfl) (fun _ _ _ h => h) (v := ?_) (yi_run rfl (fun w => ?_)) (fun _ => HS.out) ?_
            rotate_left
            · first | (go_simp; done) | (go_simp; with_reducible rfl)
            simp only [Act.put, List.setIfInBounds_toArray, List.set_cons_zero, List.set_cons_succ]
            refine lt_pure 12 rfl (by kernel_rfl) (by kernel_rfl) (by kernel_rfl) (by kernel_rfl) (fun _ _ _ h => h) (v := ?_) (yi_run rfl (fun w => ?_)) (fun _ => HS.out) ?_
            rotate_left
            · first | (go_simp; done) | (go_simp; with_reducible rfl)
            simp only [Act.put, List.setIfInBounds_toArray, List.set_cons_zero, List.set_cons_succ]
            refine lt_pure 13 rfl (by kernel_rfl) (by kernel_rfl) (by kernel_rfl) (by kernel_rfl) (fun _ _ _ h => h) (v := ?_) (yi_run rfl (fun w => ?_)) (fun _ => HS.out) ?_
            rotate_left
            · first | (go_simp; done) | (go_simp; with_reducible rfl)
            simp only [Act.put, List.setIfInBounds_toArray, List.set_cons_zero, List.set_cons_succ]
            refine lt_pure 14 rfl (by kernel_rfl) (by kernel_rfl) (by kernel_rfl) (by kernel_rfl) (fun _ _ _ h => h) (v := ?_) (yi_run rfl (fun w => ?_)) (fun _ => HS.out) ?_
            rotate_left
            · first | (go_simp; done) | (go_simp; with_reducible rfl)
            simp only [Act.put, List.setIfInBounds_toArray, List.set_cons_zero, List.set_cons_succ]
            refine lt_take 15 [16, 17] rfl (by kernel_rfl) (by kernel_rfl) (by kernel_rfl) (by kernel_rfl) (by kernel_rfl) (fun _ _ _ h => h) (yi_cell rfl rfl rfl (fun w hS => (HC2.out w hS).2.1) (fun w => Try.isAgg22 w)) HS.out ?_
            simp only [Act.put, List.setIfInBounds_toArray, List.set_cons_zero, List.set_cons_succ]
            refine lt_call 16 rfl (by kernel_rfl) rfl rfl ⟨_, Try.func30, by decide, by kernel_rfl⟩ [.slice a1 ql e1, .slice a2 ql e2] rfl ?_
            refine (same_any l l a1 a2 ql e1 ql e2 _ XQ.out (HC1.out _ HS.out).2.2.rb (HC2.out _ HS.out).2.2.rb).mono ?_
            rw [XS.out]
            rintro e z9 ⟨rfl, hb⟩
            replace HS := Lib.hid (below_up HS.out hb)
            clear hb
            refine ⟨_, rfl, fun _ => HS.out, ?_⟩
            simp only [Act.put, List.setIfInBounds_toArray, List.set_cons_zero, List.set_cons_succ]
            refine lt_pure 17 rfl (by kernel_rfl) (by kernel_rfl) (by kernel_rfl) (by kernel_rfl) (fun _ _ _ h => h) (v := ?_) (yi_run rfl (fun w => ?_)) (fun _ => HS.out) ?_
            rotate_left
            · first | (go_simp; done) | (go_simp; with_reducible rfl)
            simp only [Act.put, List.setIfInBounds_toArray, List.set_cons_zero, List.set_cons_succ]
            refine lt_done (by kernel_rfl) ?_
            have HS9 := HS
            clear HS
            have HB9 := Lib.hid (HS9.out)
            clear HS9
            go_wp2_with fail
            go_roundw
            case rel => exact ⟨s + 1, by omega, by omega, by go_num, HB9⟩
            case measure => simp [intOf]; omega
      have hdc : decide ((c : Int) < 2) = true := decide_eq_true (by omega)
      have hc1 : (0 : Int) ≤ (c : Int) := by omega
      have hc2 : (c : Int) < 2 := by omega
      obtain ⟨e, A, n, cc, B, m, d, D, v, q9, HE⟩ : ∃ (e : Ent) (A : Option Addr) (n cc : Nat) (B : Option Addr) (m d : Nat) (D : Option Addr) (v q9 : Nat), Hid ((∀ y KS ms us, KB w y g KS ms (us ++ osl) → y.rangeAt gl (c * 7) (entL A n cc B m d D v q9 e) ∧ En y A n cc B m d D v q9 e) ∧ lentP ea eb (c + 1) = lentP ea eb c ++ lentE e ∧ n ≤ 5000) := by
        by_cases h0 : c = 0
        · subst h0
          exact ⟨ea, Aa, _, ca, Ba, _, da, Da, _, qa, Lib.hid ⟨fun y KS ms us h => by rw [Nat.zero_mul]; exact (HF.out y KS ms us h).1, rfl, HLA.out.1⟩⟩
        · obtain rfl : c = 1 := by omega
          exact ⟨eb, Ab, _, cb, Bb, _, db, Db, _, qb, Lib.hid ⟨fun y KS ms us h => by rw [Nat.one_mul]; exact (HF.out y KS ms us h).2, rfl, HLB.out.1⟩⟩
      obtain ⟨K, hK⟩ : ∃ x, x = (KeyE e).1 := ⟨_, rfl⟩
      obtain ⟨kz, hkz⟩ : ∃ x, x = (KeyE e).2 := ⟨_, rfl⟩
      obtain ⟨kn, hkn⟩ : ∃ x, x = K.length := ⟨_, rfl⟩
      have HK : Hid (KeyE e = (K, kz)) := Lib.hid (by rw [hK, hkz])
      obtain ⟨G, hG⟩ : ∃ x, x = (PackE e).1 := ⟨_, rfl⟩
      obtain ⟨gz, hgz⟩ : ∃ x, x = (PackE e).2 := ⟨_, rfl⟩
      obtain ⟨gn, hgn⟩ : ∃ x, x = G.length := ⟨_, rfl⟩
      have HG : Hid (PackE e = (G, gz)) := Lib.hid (by rw [hG, hgz])
      obtain ⟨J, hJ⟩ : ∃ x, x = (StartE e.row).1 := ⟨_, rfl⟩
      obtain ⟨jz, hjz⟩ : ∃ x, x = (StartE e.row).2 := ⟨_, rfl⟩
      obtain ⟨sn, hsn⟩ : ∃ x, x = J.length := ⟨_, rfl⟩
      have HJ : Hid (StartE e.row = (J, jz)) := Lib.hid (by rw [hJ, hjz])
      obtain ⟨V, hV⟩ : ∃ x, x = (BehindE e.row).1 := ⟨_, rfl⟩
      obtain ⟨vz, hvz⟩ : ∃ x, x = (BehindE e.row).2 := ⟨_, rfl⟩
      obtain ⟨vn, hvn⟩ : ∃ x, x = V.length := ⟨_, rfl⟩
      have HV : Hid (BehindE e.row = (V, vz)) := Lib.hid (by rw [hV, hvz])
      obtain ⟨E1, hE1⟩ : ∃ x, x = (ParseKeyE K).1 := ⟨_, rfl⟩
      obtain ⟨z1, hz1⟩ : ∃ x, x = (ParseKeyE K).2 := ⟨_, rfl⟩
      have HP : Hid (ParseKeyE K = (E1, z1)) := Lib.hid (by rw [hE1, hz1])
      obtain ⟨E2, hE2⟩ : ∃ x, x = (UnpackE G 0).1 := ⟨_, rfl⟩
      obtain ⟨p2, hp2⟩ : ∃ x, x = (UnpackE G 0).2.1 := ⟨_, rfl⟩
      obtain ⟨z2, hz2⟩ : ∃ x, x = (UnpackE G 0).2.2 := ⟨_, rfl⟩
      have HU : Hid (UnpackE G 0 = (E2, p2, z2)) := Lib.hid (by rw [hE2, hp2, hz2])
      have HN : Hid (K.length = kn ∧ G.length = gn ∧ J.length = sn ∧ V.length = vn) := Lib.hid ⟨hkn.symm, hgn.symm, hsn.symm, hvn.symm⟩
      have HNL : Hid (kn ≤ 100000 ∧ gn ≤ 100000 ∧ sn ≤ 100000 ∧ vn ≤ 100000) := Lib.hid (by
        rw [hkn, hgn, hsn, hvn, hK, hG, hJ, hV]
        have q1 := keys_len e
        have q2 := start_len e.row
        have q3 := behind_len e.row
        exact ⟨q1.1, q1.2, by omega, by omega⟩)
      have HEL : Hid ((E1.row.length ≤ 140737488355000 ∧ E1.qual.length ≤ 140737488355000 ∧ E1.val.length ≤ 140737488355000) ∧ E2.row.length ≤ 140737488355000 ∧ E2.qual.length ≤ 140737488355000 ∧ E2.val.length ≤ 140737488355000) := Lib.hid (by
        rw [hE1, hE2]
        have h4 := parse_len K
        have h5 := unpack_len G 0
        omega)
      have HKE : Hid (lentE e = [K, G, J, V, E1.row, E1.qual, E1.val, E2.row, E2.qual, E2.val]) := Lib.hid (by unfold lentE; rw [hE1, hE2, hK, hG, hJ, hV])
      have HKL2 : Hid ((KS ++ lentP ea eb c).length ≤ 46) := Lib.hid (by
        rw [List.length_append]
        have := HKL.out
        have h2 : (lentP ea eb c).length ≤ 20 := by
          match c with
          | 0 => simp [lentP]
          | 1 => simp [lentP, lentE]
          | c + 2 => simp [lentP, lentE]
        omega)
      clear hK hG hJ hV hkz hgz hjz hvz hkn hgn hsn hvn hE1 hz1 hE2 hp2 hz2
      have tk : True := trivial
      go_wp2_with (first | (refine wpList_load_rowO rfl 27 (.tmp 66) rfl rfl (HE.out.1 _ _ _ [] HX.out).1 ent_row ?_) | (go_at_call 25; have _t := tk; go_must (refine (key_any e A n cc B m d D v q9 _ (HE.out.1 _ _ _ [] HX.out).2).mono ?_); rw [HK.out]; rintro r y1 hp; obtain ⟨Ak, ck, rfl, _, ho, hb⟩ := hp.at_ (n := kn) HN.out.1 rfl; replace HX := Lib.hid (HX.out.fresh hb ho); clear hp ho hb tk) | (refine wpList_load_rowO rfl 27 (.tmp 74) rfl rfl (HE.out.1 _ _ _ [_] HX.out).1 ent_row ?_))
      have tk : True := trivial
      go_wp2_with (first | (go_at_call 35; have _t := tk; go_must (refine (pack_any e A n cc B m d D v q9 _ (HE.out.1 _ _ _ [_] HX.out).2).mono ?_); rw [HG.out]; rintro r y2 hp; obtain ⟨Ap, cp, rfl, _, ho, hb⟩ := hp.at_ (n := gn) HN.out.2.1 rfl; replace HX := Lib.hid (HX.out.fresh hb ho); clear hp ho hb tk) | (refine wpList_load_cell rfl 22 (.tmp 83) rfl rfl (by have h := (HE.out.1 _ _ _ [_, _] HX.out).1 0 _ rfl; exact h) (fun w => Try.isAgg22 w) ?_))
      have tk : True := trivial
      go_wp2_with (first | (go_at_call 26; have _t := tk; go_must (refine (cstart_any e.row A n cc _ (HE.out.1 _ _ _ [_, _] HX.out).2.row (by have := HE.out.2.2; omega)).mono ?_); rw [HJ.out]; rintro r y3 hp; obtain ⟨As, cs, rfl, _, ho, hb⟩ := hp.at_ (n := sn) HN.out.2.2.1 rfl; replace HX := Lib.hid (HX.out.fresh hb ho); clear hp ho hb tk) | (refine wpList_load_cell rfl 22 (.tmp 92) rfl rfl (by have h := (HE.out.1 _ _ _ [_, _, _] HX.out).1 0 _ rfl; exact h) (fun w => Try.isAgg22 w) ?_))
      have tk : True := trivial
      go_wp2_with (first | (go_at_call 27; have _t := tk; go_must (refine (cbehind_any e.row A n cc _ (HE.out.1 _ _ _ [_, _, _] HX.out).2.row (by have := HE.out.2.2; omega)).mono ?_); rw [HV.out]; rintro r y4 hp; obtain ⟨At, ct, rfl, _, ho, hb⟩ := hp.at_ (n := vn) HN.out.2.2.2 rfl; replace HX := Lib.hid (HX.out.fresh hb ho); clear hp ho hb tk))
      have tk : True := trivial
      go_wp2_with (first | (go_at_call 42; have _t := tk; go_must (refine (keep_kb (i := 3) (A := Ak) (c := ck) (l := K) (m := kn) HX.out rfl HN.out.1 (by have := HNL.out; omega) (by have := HKL2.out; omega)).mono ?_); rintro r y5 ⟨rfl, hz⟩; replace HX := Lib.hid hz; clear hz tk))
      have tk : True := trivial
      go_wp2_with (first | (go_at_call 42; have _t := tk; go_must (refine (keep_kb (i := 2) (A := Ap) (c := cp) (l := G) (m := gn) HX.out rfl HN.out.2.1 (by have := HNL.out; omega) (by have := HKL2.out; simp only [List.length_append, List.length_cons, List.length_nil] at this ⊢; omega)).mono ?_); rintro r y6 ⟨rfl, hz⟩; replace HX := Lib.hid hz; clear hz tk))
      have tk : True := trivial
      go_wp2_with (first | (go_at_call 42; have _t := tk; go_must (refine (keep_kb (i := 1) (A := As) (c := cs) (l := J) (m := sn) HX.out rfl HN.out.2.2.1 (by have := HNL.out; omega) (by have := HKL2.out; simp only [List.length_append, List.length_cons, List.length_nil] at this ⊢; omega)).mono ?_); rintro r y7 ⟨rfl, hz⟩; replace HX := Lib.hid hz; clear hz tk))
      have tk : True := trivial
      go_wp2_with (first | (go_at_call 42; have _t := tk; go_must (refine (keep_kb (i := 0) (A := At) (c := ct) (l := V) (m := vn) HX.out rfl HN.out.2.2.2 (by have := HNL.out; omega) (by have := HKL2.out; simp only [List.length_append, List.length_cons, List.length_nil] at this ⊢; omega)).mono ?_); rintro r y8 ⟨rfl, hz⟩; replace HX := Lib.hid hz; clear hz tk))
      have tk : True := trivial
      go_wp2_with (first | (go_at_call 14; have _t := tk; go_must (refine (copied_any K Ak kn ck _ (by have := HNL.out; omega) (HX.out.kept (i := 0) rfl HN.out.1).rb).mono ?_); rintro r y9 hp; obtain ⟨Ax, cx, rfl, _, ho, hb⟩ := hp.at_ HN.out.1; replace HX := Lib.hid (HX.out.fresh hb ho); clear hp ho hb tk))
      have tk : True := trivial
      go_wp2_with (first | (go_at_call 15; have _t := tk; go_must (refine (parsekey_any K Ax kn cx _ (HX.out.get (i := 0) rfl HN.out.1) (by have := HNL.out; omega)).mono ?_); rw [HP.out]; rintro r y10 ⟨Au, cu, Bu, du, Du, qu, rfl, hr, hb⟩; have hz := HX.out.rows hb hr; simp only [List.map_cons, List.map_nil, List.cons_append, List.nil_append] at hz; replace HX := Lib.hid hz; clear hz hr hb tk) | (refine wl_alloc rfl rfl zeroL (.inl ent_zero) (OW.nil _) ?_; intro gu y11 hz _; replace HX := Lib.hid (HX.out.add (us := [boxO gu zeroL]) hz); clear hz) | (refine wk_put rfl (.tmp 23) (.tmp 113) rfl HX.out 0 rfl rfl (entL Au E1.row.length cu Bu E1.qual.length du Du E1.val.length qu E1) rfl rfl ent_size (entL_one _ _ _ _ _ _ _ _ _ _) ?_; intro y12 hz; replace HX := Lib.hid hz; clear hz))
      have tk : True := trivial
      go_wp2_with (first | (go_at_call 14; have _t := tk; go_must (refine (copied_any G Ap gn cp _ (by have := HNL.out; omega) (HX.out.kept (i := 1) rfl HN.out.2.1).rb).mono ?_); rintro r y13 hp; obtain ⟨Ay, cy, rfl, _, ho, hb⟩ := hp.at_ HN.out.2.1; replace HX := Lib.hid (HX.out.fresh hb ho); clear hp ho hb tk))
      have tk : True := trivial
      go_wp2_with (first | (go_at_call 37; have _t := tk; go_must (refine (unpack_any G Ay gn cy 0 _ (HX.out.get (i := 0) rfl HN.out.2.1) (by have := HNL.out; omega)).mono ?_); rw [HU.out]; rintro r y14 ⟨Av, cv, Bv, dv, Dv, qv, rfl, hr, hb⟩; have hz := HX.out.rows hb hr; simp only [List.map_cons, List.map_nil, List.cons_append, List.nil_append] at hz; replace HX := Lib.hid hz; clear hz hr hb tk) | (refine wl_alloc rfl rfl zeroL (.inl ent_zero) (OW.nil _) ?_; intro gv y15 hz _; replace HX := Lib.hid (HX.out.add (us := [boxO gv zeroL]) hz); clear hz) | (refine wk_put rfl (.tmp 25) (.tmp 119) rfl HX.out 0 rfl rfl (entL Av E2.row.length cv Bv E2.qual.length dv Dv E2.val.length qv E2) rfl rfl ent_size (entL_one _ _ _ _ _ _ _ _ _ _) ?_; intro y16 hz; replace HX := Lib.hid hz; clear hz) | (refine wpList_load_row7 rfl 27 (.tmp 23) rfl rfl (HX.out.rest.range (i := 5) rfl) ent_row ?_))
      have tk : True := trivial
      go_wp2_with (first | (go_at_call 43; have _t := tk; go_must (refine (entry_kb (i := 6) E1.fam E1.ts E1.seq E1.kind HX.out rfl rfl rfl ⟨rfl, rfl, rfl⟩ HEL.out.1 (by have := HKL2.out; simp only [List.length_append, List.length_cons, List.length_nil] at this ⊢; omega)).mono ?_); rintro r y17 ⟨rfl, hz⟩; replace HX := Lib.hid hz; clear hz tk) | (refine wpList_load_row7 rfl 27 (.tmp 25) rfl rfl (HX.out.rest.range (i := 0) rfl) ent_row ?_))
      have tk : True := trivial
      go_wp2_with (first | (go_at_call 43; have _t := tk; go_must (refine (entry_kb (i := 1) E2.fam E2.ts E2.seq E2.kind HX.out rfl rfl rfl ⟨rfl, rfl, rfl⟩ HEL.out.2 (by have := HKL2.out; simp only [List.length_append, List.length_cons, List.length_nil] at this ⊢; omega)).mono ?_); rintro r y18 ⟨rfl, hz⟩; replace HX := Lib.hid hz; clear hz tk))
      have HEND : Hid (KB w y18 g (KS ++ lentP ea eb (c + 1)) [] osl) := Lib.hid (by
        rw [HE.out.2.1, HKE.out]
        have h := (KB.drop (us := [_, _, _, _]) HX.out).forget
        simp only [List.append_assoc, List.cons_append, List.nil_append] at h ⊢
        exact h)
      clear HX
      go_roundw
      case rel => exact ⟨c + 1, by omega, by go_num, HEND⟩
      case measure => simp [intOf]; omega
end Go.Proofs.Ytcikhlieaoanoaa
