/-
  Laid together by merge.py: BlockM7, BlockM8, BlockM9.
-/
import Derived.Test.YtmigjipfomfacaaDoorBu6
import Derived.Test.YtmigjipfomfacaaDoorBu3
namespace Go.Proofs.YtmigjipfomfacaaDoor
open Go.RowKit
def boolL (l : List Bool) : List Value := l.map Value.bool
theorem wpList_to80 {Q : Exit → Act → World → Prop} {ops : Array Oper} {rest : List Oper} {o : Oper} {a : Act} {w : World} (hgd : Region.wanted o (yielded ops a.tmps) = true) (x : Operand) (ho : o.op = .slice 22 x none (some (.const (.int .i64 80))) none) {A : Option Addr} {n c : Nat} (hx : a.eval x = .slice A n c) (hc : 80 ≤ c)
    (hK : wpList Tryd.prog ops Q rest (a.put o.dst (.slice A 80 c)) w) : wpList Tryd.prog ops Q (o :: rest) a w :=
  BigFrame.wpList_want hgd fun _ hk => by
    have hrun : (execOp a.eval o).run Tryd.prog w = .ok (.value (.slice A 80 c)) w := by
      obtain ⟨dst, op, type, pos, after, guard⟩ := o
      simp only at ho
      subst ho
      have hcI : (80 : Int) ≤ (c : Int) := by omega
      have hel : Tryd.prog.underlying 22 = some (.slice (Tryd.prog.elem 22)) := by kernel_rfl
      have h1 := run_slice_h (P := Tryd.prog) (w := w) 22 A n c hel .i64 80 (by decide) hcI
      have hz : ((sizeOf (Tryd.prog.elem 22)).run Tryd.prog w) = .ok 7 w := by kernel_rfl
      rw [hz] at h1
      have h2 := run_sliceAt_slice (P := Tryd.prog) (w := w) 22 (.slice A n c) none (some (.int .i64 80)) none hel
      rw [h1] at h2
      have h3 : sliced A 0 (Int.toNat 80) c 7 = .slice A 80 c := by
        unfold sliced
        simp [Addr.add]
      simp only [Result.andThen, h3] at h2
      show ((Instr.sliceAt 22 (a.eval x) none (some (.int .i64 80)) none) >>= fun v => pure (Next.value v)).run Tryd.prog w = _
      rw [hx]
      simp only [Sem.run_bind, h2, Result.andThen]
      rfl
    unfold Oper.wp
    rw [hrun, Oper.upon_value]
    exact hk _ _ hK
theorem Tryd.halfS : SliceOf Tryd.prog 73 70 1 8 := SliceOf.mk' (z := .pointer none) Tryd.underlying73 (by kernel_rfl) rfl (by decide)
theorem listO_ens {w z : World} {os : List Ob} {g n mc : Nat} {rs : List ER} (h : OW w os z) (hi : listO g n 9 mc rs ∈ os) (hm : ∀ o, o ∈ rs.flatMap entR → o ∈ os) (hl : rs.length = n) : Ens z (some ⟨g, 0, none⟩) n (rs.map ER.e) := by
  refine ⟨rs, rfl, ?_, fun r hr => entO_en h fun o ho => hm o (List.mem_flatMap.2 ⟨r, hr, ho⟩)⟩
  have h1 := (Reads.own (h.rowm (T := 37) (sz := 7) hi)).take (m := n) (by omega)
  have h2 : (listC rs 9).take (n * 7) = rs.flatMap ER.cells := by
    unfold listC
    rw [flat7_take, List.take_left' hl]
  rwa [h2] at h1
theorem duo_c0 {w z : World} {fg n gh hg0 hg1 : Nat} {h o : HalfD} (d : Duo w fg (rowO 70 1 (.slice (some ⟨gh, 0, none⟩) 2 2) 2 [.pointer (some ⟨hg0, 0, none⟩), .pointer (some ⟨hg1, 0, none⟩)]) h o n z) : z.cell? ⟨gh, 0, none⟩ = some (.pointer (some ⟨hg0, 0, none⟩)) ∧ z.cell? ⟨gh, 1, none⟩ = some (.pointer (some ⟨hg1, 0, none⟩)) :=
  ⟨World.ownsRow.cellAt d.row 0 (by decide), World.ownsRow.cellAt d.row 1 (by decide)⟩
def Sel (R R' b0 b1 hg0 hg1 : Nat) (cb : Bool) (h o : HalfD) : Prop :=
  (cb = false ∧ (h.R = R ∧ h.b = b0 ∧ h.hg = hg0) ∧ o.R = R' ∧ o.b = b1 ∧ o.hg = hg1) ∨ (cb = true ∧ (h.R = R' ∧ h.b = b1 ∧ h.hg = hg1) ∧ o.R = R ∧ o.b = b0 ∧ o.hg = hg0)
set_option maxRecDepth 10000000 in
set_option maxHeartbeats 16000000 in
theorem builds_any (R R' : Nat) (es0 : List Ent) (A : Option Addr) (n0 c : Nat) (T : Option Addr) (nt ct : Nat) (bs : List Bool) (w : World) (hR : 1 ≤ R ∧ R ≤ 16) (hR' : 1 ≤ R' ∧ R' ≤ 16) (hes : Ens w A n0 es0) (hnc : n0 ≤ c) (hbs : Reads w w.heap.size 1 T nt (boolL bs)) (_hnt : nt ≤ 9223372036854775807) (ht : TabAt 0 w) :
    Calls Tryd.prog 7 #[.int .i64 (R : Int), .int .i64 (R' : Int), .slice A n0 c, .slice T nt ct] w fun e z => e = .returned (.bool true) ∧ Below w.heap.size w z := by
  obtain ⟨n, hn⟩ : ∃ z, z = min n0 80 := ⟨_, rfl⟩
  obtain ⟨es, hes1⟩ : ∃ z, z = es0.take n := ⟨_, rfl⟩
  have hn80 : n ≤ 80 := by omega
  have hnn : n ≤ n0 := by omega
  have HES : Hid (∀ z, Below w.heap.size w z → Ens z A n es) := Lib.hid fun z hz => by rw [hes1]; exact (hes.take hnn).later hz
  have HLE : Hid (es.length = n) := Lib.hid (HES.out w (Below.refl _ _)).len
  have HTB : Hid (∀ z, Below w.heap.size w z → TabAt 0 z) := Lib.hid fun z hz => ht.later hz
  have HBS : Hid (∀ z, Below w.heap.size w z → Reads z w.heap.size 1 T nt (boolL bs)) := Lib.hid fun z hz => hbs.below hz
  have HT0 := Lib.hid ht
  obtain ⟨hr1, hr2⟩ := hR
  obtain ⟨hq1, hq2⟩ := hR'
  have HG1 : Hid (beginI (R : Int) = 0) := Lib.hid (if_neg (by omega))
  have HG2 : Hid (beginI (R' : Int) = 0) := Lib.hid (if_neg (by omega))
  have HX := Lib.hid (OW.nil w)
  clear hes hbs ht hes1
  have tk1 : True := trivial
  have tk2 : True := trivial
  have tk3 : True := trivial
  go_enter Tryd.func7, Tryd.ntmps7
  go_upto_if 72 with (first
    | (go_at_call 11; go_must (refine (told_any _ (HTB.out _ HX.out.up)).mono ?_); rintro e x3 ⟨rfl, hb⟩; replace HX := Lib.hid (HX.out.later hb); clear hb)
    | (go_at_call 22; have _t := tk1; go_must (refine (begin_ok R _ hr1 hr2).mono ?_); rintro e x4 ⟨b0, os0, rfl, hbl, hos⟩; have HB0 := Lib.hid hbl; have HX1 := Lib.hid (HX.out.app hos); rw [List.nil_append] at HX1; clear hbl hos HX tk1 _t)
    | (go_at_call 22; have _t := tk2; go_must (refine (begin_ok R' _ hq1 hq2).mono ?_); rintro e x5 ⟨b1, os1, rfl, hbl, hos⟩; have HB1 := Lib.hid hbl; have HX2 := Lib.hid (HX1.out.app hos); clear hbl hos HX1 tk2 _t)
    | (go_at_call 31; have _t := tk3; go_must (refine (rbegin_any (R : Int) _).mono ?_); rw [HG1.out]; rintro e y6 ⟨rfl, rfl⟩; clear tk3 _t)
    | (go_at_call 31; go_must (refine (rbegin_any (R' : Int) _).mono ?_); rw [HG2.out]; rintro e y7 ⟨rfl, rfl⟩))
  obtain ⟨w4, rfl⟩ : ∃ z : World, z = x5 := ⟨_, rfl⟩
  go_cut [2] (fun av wx => w4 = wx ∧ av = .slice A n c)
  case first =>
    by_cases hbig : 80 < n0
    · have hd : decide ((n0 : Int) > 80) = true := decide_eq_true (by omega)
      have hn8 : n = 80 := by omega
      have hcI : (80 : Int) ≤ (c : Int) := by omega
      have hcN : 80 ≤ c := by omega
      have hcD : (0 : Int) ≤ 80 := by decide
      have hcG : Int.toNat 80 = 80 := rfl
      have hcE : ¬ (c : Int) < 80 := by omega
      have hcF : ((80 : Nat) : Int) ≤ (c : Int) := by omega
      subst hn8
      go_wp2_with (first
        | (refine wpList_to80 rfl (.tmp 73) rfl rfl hcN ?_; simp only [Act.put, List.setIfInBounds_toArray, List.set_cons_zero, List.set_cons_succ]))
      go_meet
      exact ⟨rfl, rfl⟩
    · have hd : decide ((n0 : Int) > 80) = false := decide_eq_false (by omega)
      have hn8 : n = n0 := by omega
      subst hn8
      go_wp2_with fail
      go_meet
      exact ⟨rfl, rfl⟩
  obtain ⟨rfl, rfl⟩ := hcut
  clear hn hnn hnc
  have tk4 : True := trivial
  go_wp2_with (first
    | (refine wl_box rfl (.tmp 77) rfl [.pointer (some ⟨b0, 0, none⟩), .int .i64 (R : Int), .slice none 0 0] rfl HX2.out ?_; intro hg0 z1 hz _; have HX3 := Lib.hid hz; clear hz HX2)
    | (refine wl_box rfl (.tmp 81) rfl [.pointer (some ⟨b1, 0, none⟩), .int .i64 (R' : Int), .slice none 0 0] rfl HX3.out ?_; intro hg1 z2 hz _; have HX4 := Lib.hid hz; clear hz HX3)
    | (refine wl_build rfl #[(0, .tmp 78), (1, .tmp 82)] rfl #[.pointer (some ⟨hg0, 0, none⟩), .pointer (some ⟨hg1, 0, none⟩)] Tryd.halfS (.pointer none) (by kernel_rfl) (by decide) (by decide) (by decide) rfl (by kernel_rfl) HX4.out ?_; intro gh z3 hz _; have HX5 := Lib.hid hz; clear hz HX4)
    | (refine wl_box rfl (.tmp 84) rfl [.slice none 0 0, .slice none 0 0, .int .i64 0] rfl HX5.out ?_; intro fg z4 hz _; have HX6 := Lib.hid hz; clear hz HX5))
  have HD : Hid (Duo w fg (rowO 70 1 (.slice (some ⟨gh, 0, none⟩) 2 2) 2 [.pointer (some ⟨hg0, 0, none⟩), .pointer (some ⟨hg1, 0, none⟩)]) ⟨R, b0, hg0, [], [], none, 0, 0⟩ ⟨R', b1, hg1, [], [], none, 0, 0⟩ 0 z4) := Lib.hid (by
    obtain ⟨of, hf, hz⟩ := Fl.new HX6.out
    have h9 := (hz.nilRow 37 7).nilRow 37 7
    refine ⟨of, os0, os1, [], hf, HB0.out, HB1.out, ⟨rfl, (fun r hr => by cases hr), rfl, Nat.le_refl _⟩, ⟨rfl, (fun r hr => by cases hr), rfl, Nat.le_refl _⟩, h9.perm ?_⟩
    unfold DuoL restD HalfD.box HalfD.row
    simp only [List.flatMap_nil]
    (refine perm_of_cnt fun a => ?_; (simp only [cntO_app, cntO_cons, cntO_nil]) <;> omega))
  clear HX6 HB0 HB1
  go_loopw [15, 16, 17, 18, 19, 20, 21] (fun iv _ _ _ _ _ _ wr => ∃ (i : Nat) (h0 h1 : HalfD), i ≤ n ∧ iv = .int .i64 i ∧ Sel R R' b0 b1 hg0 hg1 false h0 h1 ∧ Hid (Duo w fg (rowO 70 1 (.slice (some ⟨gh, 0, none⟩) 2 2) 2 [.pointer (some ⟨hg0, 0, none⟩), .pointer (some ⟨hg1, 0, none⟩)]) h0 h1 i wr)) (fun iv _ _ _ _ _ _ _ => n - (intOf iv).toNat)
  case atStart => exact ⟨0, _, _, Nat.zero_le _, rfl, .inl ⟨rfl, ⟨rfl, rfl, rfl⟩, rfl, rfl, rfl⟩, HD⟩
  case round =>
    clear HD
    obtain ⟨i, h0, h1, hin, rfl, hsel, HD⟩ := hrel
    by_cases hlt : i < n
    case neg =>
      have hd : decide ((i : Int) < (n : Int)) = false := decide_eq_false (by omega)
      have tk6 : True := trivial
      have tk7 : True := trivial
      obtain ⟨ed, hed⟩ : ∃ z, z = es.map cut5 := ⟨_, rfl⟩
      have HED := Lib.hid hed.symm
      obtain ⟨bb, hbb⟩ : ∃ z, z = (buildE5 (R : Int) ed).1 := ⟨_, rfl⟩
      obtain ⟨bc, hbc⟩ : ∃ z, z = (buildE5 (R : Int) ed).2 := ⟨_, rfl⟩
      obtain ⟨bn, hbn⟩ : ∃ z, z = bb.length := ⟨_, rfl⟩
      have HBB := Lib.hid hbb.symm
      have HBC := Lib.hid hbc.symm
      have HBN := Lib.hid hbn.symm
      clear hed hbb hbc hbn
      have hn1 : n ≤ 1000 := by omega
      have heq : (bc == bc) = true := beq_self_eq_true bc
      have k6 : h1.hg = hg1 := by
        rcases hsel with ⟨_, _, _, _, k⟩ | ⟨k0, _⟩
        · exact k
        · cases k0
      go_upto_region 31 with (first
        | (go_at_call 38; have _t := tk6; go_must (refine (entries5_any es A n c _ (HES.out _ HD.out.up) hn1).mono ?_); rw [HED.out]; rintro r y1 ⟨g1, mc1, rs1, rfl, hmc1, hrs1, ho⟩; have HY1 := Lib.hid ho; have HR1 := Lib.hid hrs1; clear ho hrs1 tk6 _t)
        | (go_at_call 38; have _t := tk7; go_must (refine (entries5_any es A n c _ (HES.out _ (below_up HD.out.up HY1.out.up)) hn1).mono ?_); rw [HED.out]; rintro r y2 ⟨g2, mc2, rs2, rfl, hmc2, hrs2, ho⟩; have HY2 := Lib.hid (HY1.out.app ho); have HR2 := Lib.hid hrs2; have HLR : Hid (rs1.length = n ∧ rs2.length = n) := Lib.hid (by have h1 := congrArg List.length HR1.out; have h2 := congrArg List.length hrs2; rw [← HED.out] at h1 h2; simp only [List.length_map] at h1 h2; have := HLE.out; omega); clear ho hrs2 tk7 _t HY1)
        | (go_at_call 10; go_must (refine (build_any (R : Int) (rs1.map ER.e) (some ⟨g1, 0, none⟩) n mc1 _ (listO_ens HY2.out (List.mem_append_left _ (.head _)) (fun u hu => List.mem_append_left _ (.tail _ hu)) HLR.out.1) (by omega) (HTB.out _ (below_up HD.out.up HY2.out.up))).mono ?_); rw [HR1.out, HBB.out, HBC.out]; rintro r y3 hp; obtain ⟨A5, c5, rfl, _, ho, hb⟩ := hp.at_ (n := bn) HBN.out rfl; have HY3 := Lib.hid (HY2.out.app (OW.byt1 hb ho)); clear hp ho hb HY2)
        | (go_at_call 21; go_must (refine (rbuild_any (R : Int) (rs2.map ER.e) (some ⟨g2, 0, none⟩) n mc2 _ (listO_ens HY3.out (List.mem_append_left _ (List.mem_append_right _ (.head _))) (fun u hu => List.mem_append_left _ (List.mem_append_right _ (.tail _ hu))) HLR.out.2) (by omega)).mono ?_); rw [HR2.out, HBB.out, HBC.out]; rintro r y4 hp; obtain ⟨A6, c6, rfl, _, ho, hb⟩ := hp.at_ (n := bn) HBN.out rfl; have HY4 := Lib.hid (HY3.out.app (OW.byt1 hb ho)); clear hp ho hb HY3))
      have HMA : Hid (∀ z, Below y4.heap.size y4 z → Made z g1 rs1 ∧ Made z g2 rs2) := Lib.hid fun z hz => ⟨OW.made (i := 0) (es := es) (HY4.out.later hz) rfl (fun u hu => List.mem_append_left _ (List.mem_append_left _ (List.mem_append_left _ (.tail _ hu)))) (by rw [HED.out]; exact HR1.out), by
        have h9 : OW wr (listO g2 n 9 mc2 rs2 :: (rs2.flatMap entR ++ ((listO g1 n 9 mc1 rs1 :: rs1.flatMap entR) ++ [bytO 5 (A5, c5, bb), bytO 5 (A6, c6, bb)]))) z := (HY4.out.later hz).perm (by (refine perm_of_cnt fun a => ?_; (simp only [cntO_app, cntO_cons, cntO_nil]) <;> omega))
        exact OW.made (i := 0) (es := es) h9 rfl (fun u hu => .tail _ (List.mem_append_left _ hu)) (by rw [HED.out]; exact HR2.out)⟩
      have HD2 : Hid (Duo w fg (rowO 70 1 (.slice (some ⟨gh, 0, none⟩) 2 2) 2 [.pointer (some ⟨hg0, 0, none⟩), .pointer (some ⟨hg1, 0, none⟩)]) h1 h0 i y4) := Lib.hid (HD.out.later HY4.out.up).swap
      have HSM1 : Hid (RB y4 y4.heap.size A5 bn bb) := Lib.hid (HY4.out.slm (T := 5) (c := c5) (List.mem_append_left _ (List.mem_append_right _ (.head _))) HBN.out).rb
      have HSM2 : Hid (RB y4 y4.heap.size A6 bn bb) := Lib.hid (HY4.out.slm (T := 5) (c := c6) (List.mem_append_right _ (.head _)) HBN.out).rb
      have hbn9 : bn ≤ 9223372036854775807 := by
        have h9 := (HY4.out.slm (T := 5) (c := c6) (List.mem_append_right _ (.head _)) HBN.out)
        have h8 := h9.cap
        have h7 := h9.lim
        omega
      have hi80 : i ≤ 80 := by omega
      clear HY4
      go_wp2_with (first
        | (go_at_call 16; go_must (refine (same_any bb bb A5 A6 bn c5 bn c6 _ hbn9 HSM1.out HSM2.out).mono ?_); rw [beq_self_eq_true]; rintro r y5 ⟨rfl, hb⟩; have HB5 := Lib.hid hb; clear hb)
        | (go_at_call 39; go_must (refine (listStands_any rs1 rs2 g1 g2 n mc1 mc2 _ (HMA.out _ HB5.out).1 (HMA.out _ HB5.out).2 (HR1.out.trans HR2.out.symm) HLR.out.1 hn1 hmc1 hmc2).mono ?_); rintro r y6 ⟨rfl, hb⟩; have HD6 := Lib.hid (HD2.out.later (below_up HB5.out hb)); have HC6 := Lib.hid (duo_c0 HD6.out.swap).2; clear hb)
        | (refine wpList_load_cell rfl 70 (.tmp 201) rfl rfl HC6.out (fun w => Tryd.isAgg70 w) ?_)
        | (go_at_call 36; rw [← k6]; go_must (refine (asks_duo HD6.out hi80 HT0.out).mono ?_); rintro r y7 ⟨rfl, hd7⟩; have HUP := Lib.hid hd7.up; clear hd7))
      go_ret
      exact ⟨rfl, HUP.out⟩
    have hd : decide ((i : Int) < (n : Int)) = true := decide_eq_true (by omega)
    obtain ⟨ba, oo, Ar, ec, B, d, D, q, e, rfl, hbl2, hek, hrg, hen⟩ := (HES.out w (Below.refl _ _)).at_ hlt
    have HRG : Hid (∀ z, Below w.heap.size w z → z.rangeAt ba (oo + i * 7) [.slice Ar e.row.length ec, .int .i64 e.fam, .slice B e.qual.length d, .int .i64 e.ts, .int .i64 e.seq, .int .i64 e.kind, .slice D e.val.length q]) := Lib.hid fun z hz j v hj => (hz.cell (p := ⟨ba, _, none⟩) hbl2).trans (hrg j v hj)
    have HEN : Hid (∀ z, Below w.heap.size w z → En z Ar e.row.length ec B e.qual.length d D e.val.length q e) := Lib.hid fun z hz => hen.later hz
    have i1 : (0 : Int) ≤ (i : Int) := by omega
    have i2 : (i : Int) < (n : Int) := by omega
    clear hek hrg hen
    obtain ⟨cb, hcb⟩ : ∃ z : Bool, z = (if i < nt then (bs[i]?).getD false else false) := ⟨_, rfl⟩
    have HCB := Lib.hid hcb.symm
    clear hcb
    have HC0 : Hid (∀ z, Below wr.heap.size wr z → z.cell? ⟨gh, 0, none⟩ = some (.pointer (some ⟨hg0, 0, none⟩)) ∧ z.cell? ⟨gh, 1, none⟩ = some (.pointer (some ⟨hg1, 0, none⟩))) := Lib.hid fun z hz => duo_c0 (HD.out.later hz)
    go_upto_region 17 with (first
      | (refine wpList_load_cell rfl 70 (.tmp 93) rfl rfl (HC0.out _ (Below.refl _ _)).1 (fun w => Tryd.isAgg70 w) ?_))
    obtain ⟨w5, rfl⟩ : ∃ z : World, z = wr := ⟨_, rfl⟩
    go_cut [104] (fun bv wx => w5 = wx ∧ bv = .bool cb)
    case first =>
      by_cases hi : i < nt
      · have hd2 : decide ((i : Int) < (nt : Int)) = true := decide_eq_true (by omega)
        have hd3 : i < nt := hi
        have i3 : (i : Int) < (nt : Int) := by omega
        obtain ⟨tb, tq, rfl, hlb, hcl⟩ := (HBS.out _ HD.out.up).2 (show 0 < nt by omega)
        have hbl : bs.length = nt := by have h := (HBS.out _ HD.out.up).1; unfold boolL at h; rw [List.length_map] at h; omega
        obtain ⟨bv, hbv⟩ : ∃ b, bs[i]? = some b := ⟨_, List.getElem?_eq_getElem (by omega)⟩
        have hcell := hcl i (.bool bv) (by unfold boolL; rw [List.getElem?_map, hbv]; rfl)
        have hcb2 : bv = cb := by rw [← HCB.out, if_pos hi, hbv]; rfl
        subst hcb2
        go_wp2_with (first
          | (refine wpList_load_cell rfl 4 (.tmp 102) rfl rfl hcell (fun w => Tryd.isAgg4 w) ?_))
        go_meet
        exact ⟨rfl, rfl⟩
      · have hd2 : decide ((i : Int) < (nt : Int)) = false := decide_eq_false (by omega)
        have hcb2 : cb = false := by rw [← HCB.out, if_neg hi]
        subst hcb2
        go_wp2_with fail
        go_meet
        exact ⟨rfl, rfl⟩
    obtain ⟨rfl, rfl⟩ := hcut
    obtain ⟨hq, hhq⟩ : ∃ z : Nat, z = (if cb = true then hg1 else hg0) := ⟨_, rfl⟩
    go_upto_if 104 with fail
    go_cut [16] (fun hv wx => w5 = wx ∧ hv = .pointer (some ⟨hq, 0, none⟩))
    case first =>
      cases cb
      · obtain rfl : hq = hg0 := hhq
        go_wp2_with fail
        go_meet
        exact ⟨rfl, rfl⟩
      · obtain rfl : hq = hg1 := hhq
        go_wp2_with (first
          | (refine wpList_load_cell rfl 70 (.tmp 106) rfl rfl (HC0.out _ (Below.refl _ _)).2 (fun w => Tryd.isAgg70 w) ?_))
        go_meet
        exact ⟨rfl, rfl⟩
    obtain ⟨rfl, rfl⟩ := hcut
    obtain ⟨h, o, HSEL, HDU, hhg, hR⟩ : ∃ h o, Hid (Sel R R' b0 b1 hg0 hg1 cb h o) ∧ Hid (Duo w fg (rowO 70 1 (.slice (some ⟨gh, 0, none⟩) 2 2) 2 [.pointer (some ⟨hg0, 0, none⟩), .pointer (some ⟨hg1, 0, none⟩)]) h o i w5) ∧ hq = h.hg ∧ (1 ≤ h.R ∧ h.R ≤ 16) := by
      rcases hsel with ⟨_, ⟨k1, k2, k3⟩, k4, k5, k6⟩ | ⟨k0, _⟩
      · cases cb
        · exact ⟨h0, h1, Lib.hid (.inl ⟨rfl, ⟨k1, k2, k3⟩, k4, k5, k6⟩), HD, by rw [hhq, k3]; rfl, by rw [k1]; exact ⟨hr1, hr2⟩⟩
        · exact ⟨h1, h0, Lib.hid (.inr ⟨rfl, ⟨k4, k5, k6⟩, k1, k2, k3⟩), Lib.hid HD.out.swap, by rw [hhq, k6]; rfl, by rw [k4]; exact ⟨hq1, hq2⟩⟩
      · cases k0
    subst hhg
    clear hhq hsel HD h0 h1
    obtain ⟨e', he'⟩ : ∃ z, z = cut5 e := ⟨_, rfl⟩
    have HE' := Lib.hid he'.symm
    have HCL : Hid (e'.row.length ≤ 5000 ∧ e'.qual.length ≤ 5000 ∧ e'.val.length ≤ 5000) := Lib.hid (by rw [he']; exact cut5_le e)
    clear he'
    have HW5 : Hid (Below w.heap.size w w5) := Lib.hid HDU.out.up
    have HZ0 : Hid (OW w5 [] w5) := Lib.hid (OW.nil w5)
    go_upto_region 19 with fail
    go_cut [17, 18] (fun iv dv wx => ∃ (A1 : Option Addr) (c1 : Nat) (B1 : Option Addr) (d1 : Nat) (D1 : Option Addr) (q1 : Nat) (A2 : Option Addr) (c2 : Nat) (B2 : Option Addr) (d2 : Nat) (D2 : Option Addr) (q2 gi gd : Nat), iv = .pointer (some ⟨gi, 0, none⟩) ∧ dv = .pointer (some ⟨gd, 0, none⟩) ∧ Hid (OW w5 [bytO 5 (A1, c1, e'.row ++ mkL 70), bytO 5 (B1, d1, e'.qual ++ mkL 70), bytO 5 (D1, q1, e'.val ++ mkL 70), bytO 5 (A2, c2, e'.row ++ mkL 70), bytO 5 (B2, d2, e'.qual ++ mkL 70), bytO 5 (D2, q2, e'.val ++ mkL 70), boxO gi [.slice A1 e'.row.length c1, .int .i64 e'.fam, .slice B1 e'.qual.length d1, .int .i64 e'.ts, .int .i64 e'.seq, .int .i64 e'.kind, .slice D1 e'.val.length q1], boxO gd [.slice A2 e'.row.length c2, .int .i64 e'.fam, .slice B2 e'.qual.length d2, .int .i64 e'.ts, .int .i64 e'.seq, .int .i64 e'.kind, .slice D2 e'.val.length q2]] wx))
    case first =>
      refine lt_start [12, 13] (by kernel_rfl) ?_
      intro xd hd
      refine ⟨fun z => Below w5.heap.size w5 z, ?_⟩
      have HS := Lib.hid (HZ0.out.later hd)
      refine lt_pure 0 rfl (by kernel_rfl) (by kernel_rfl) (by kernel_rfl) (by kernel_rfl) (fun _ _ _ h => h) (v := ?_) (yi_run rfl (fun w => ?_)) (fun _ => HS.out.up) ?_
      rotate_left
      · first | (go_simp; done) | (go_simp; with_reducible rfl)
      simp only [Act.put, List.setIfInBounds_toArray, List.set_cons_zero, List.set_cons_succ]
      refine lt_pure 1 rfl (by kernel_rfl) (by kernel_rfl) (by kernel_rfl) (by kernel_rfl) (fun _ _ _ h => h) (v := ?_) (yi_run rfl (fun w => ?_)) (fun _ => HS.out.up) ?_
      rotate_left
      · first | (go_simp; done) | (go_simp; with_reducible rfl)
      simp only [Act.put, List.setIfInBounds_toArray, List.set_cons_zero, List.set_cons_succ]
      refine lt_pure 2 rfl (by kernel_rfl) (by kernel_rfl) (by kernel_rfl) (by kernel_rfl) (fun _ _ _ h => h) (v := ?_) (yi_run rfl (fun w => ?_)) (fun _ => HS.out.up) ?_
      rotate_left
      · first | (go_simp; done) | (go_simp; with_reducible rfl)
      simp only [Act.put, List.setIfInBounds_toArray, List.set_cons_zero, List.set_cons_succ]
      refine lt_take 3 [4, 9, 12, 13] rfl (by kernel_rfl) (by kernel_rfl) (by kernel_rfl) (by kernel_rfl) (by kernel_rfl) (fun _ _ _ h => h) (yi_rowO rfl rfl rfl (fun w hS => HRG.out _ (below_up HW5.out hS)) ent_rowM) HS.out.up ?_
      simp only [Act.put, List.setIfInBounds_toArray, List.set_cons_zero, List.set_cons_succ]
      refine lt_pure 5 rfl (by kernel_rfl) (by kernel_rfl) (by kernel_rfl) (by kernel_rfl) (fun _ _ _ h => h) (v := ?_) (yi_run rfl (fun w => ?_)) (fun _ => HS.out.up) ?_
      rotate_left
      · first | (go_simp; done) | (go_simp; with_reducible rfl)
      simp only [Act.put, List.setIfInBounds_toArray, List.set_cons_zero, List.set_cons_succ]
      refine lt_pure 6 rfl (by kernel_rfl) (by kernel_rfl) (by kernel_rfl) (by kernel_rfl) (fun _ _ _ h => h) (v := ?_) (yi_run rfl (fun w => ?_)) (fun _ => HS.out.up) ?_
      rotate_left
      · first | (go_simp; done) | (go_simp; with_reducible rfl)
      simp only [Act.put, List.setIfInBounds_toArray, List.set_cons_zero, List.set_cons_succ]
      refine lt_pure 7 rfl (by kernel_rfl) (by kernel_rfl) (by kernel_rfl) (by kernel_rfl) (fun _ _ _ h => h) (v := ?_) (yi_run rfl (fun w => ?_)) (fun _ => HS.out.up) ?_
      rotate_left
      · first | (go_simp; done) | (go_simp; with_reducible rfl)
      simp only [Act.put, List.setIfInBounds_toArray, List.set_cons_zero, List.set_cons_succ]
      refine lt_take 8 [9, 12, 13] rfl (by kernel_rfl) (by kernel_rfl) (by kernel_rfl) (by kernel_rfl) (by kernel_rfl) (fun _ _ _ h => h) (yi_rowO rfl rfl rfl (fun w hS => HRG.out _ (below_up HW5.out hS)) ent_rowM) HS.out.up ?_
      simp only [Act.put, List.setIfInBounds_toArray, List.set_cons_zero, List.set_cons_succ]
      refine lt_three 4 10 11 rfl rfl rfl (by kernel_rfl) rfl rfl rfl ?_ ?_ ?_
      · refine wp_callL rfl ⟨_, Tryd.func32, by decide, by kernel_rfl⟩ [entV Ar e.row.length ec B e.qual.length d D e.val.length q e] rfl ?_
        refine (entry5_any e Ar _ ec B _ d D _ q _ (HEN.out _ (below_up HW5.out HS.out.up))).mono ?_
        rw [HE'.out]
        rintro r z1 ⟨A1, B1, D1, c1, d1, q1, rfl, ho⟩
        replace HS := Lib.hid (HS.out.app ho)
        clear ho
        refine ⟨_, rfl, ?_⟩
        refine ⟨fun _ => HS.out.up, ?_⟩
        simp only [Act.put, List.setIfInBounds_toArray, List.set_cons_zero, List.set_cons_succ]
        refine lt_three 9 10 11 rfl rfl rfl (by kernel_rfl) rfl rfl rfl ?_ ?_ ?_
        · refine wp_callL rfl ⟨_, Tryd.func32, by decide, by kernel_rfl⟩ [entV Ar e.row.length ec B e.qual.length d D e.val.length q e] rfl ?_
          refine (entry5_any e Ar _ ec B _ d D _ q _ (HEN.out _ (below_up HW5.out HS.out.up))).mono ?_
          rw [HE'.out]
          rintro r z2 ⟨A2, B2, D2, c2, d2, q2, rfl, ho⟩
          replace HS := Lib.hid (HS.out.app ho)
          clear ho
          refine ⟨_, rfl, ?_⟩
          refine ⟨fun _ => HS.out.up, ?_⟩
          simp only [Act.put, List.setIfInBounds_toArray, List.set_cons_zero, List.set_cons_succ]
          refine lt_two 10 11 rfl rfl (by kernel_rfl) rfl rfl ?_ ?_
          · refine wpo_alloc rfl [.slice none 0 0, .int .i64 0, .slice none 0 0, .int .i64 0, .int .i64 0, .int .i64 0, .slice none 0 0] (.inl (by kernel_rfl)) HS.out ?_
            intro gi ugi hz _
            replace HS := Lib.hid hz
            clear hz
            refine ⟨fun _ => HS.out.up, ?_⟩
            simp only [Act.put, List.setIfInBounds_toArray, List.set_cons_zero, List.set_cons_succ]
            refine lt_op 11 rfl (by kernel_rfl) rfl ?_
            refine wpo_alloc rfl [.slice none 0 0, .int .i64 0, .slice none 0 0, .int .i64 0, .int .i64 0, .int .i64 0, .slice none 0 0] (.inl (by kernel_rfl)) HS.out ?_
            intro gd ugd hz _
            replace HS := Lib.hid hz
            clear hz
            refine ⟨fun _ => HS.out.up, ?_⟩
            simp only [Act.put, List.setIfInBounds_toArray, List.set_cons_zero, List.set_cons_succ]
            refine lt_end 12 rfl (by kernel_rfl) rfl (by kernel_rfl) ?_
            refine wpo_put rfl HS.out 6 rfl rfl [.slice A1 e'.row.length c1, .int .i64 e'.fam, .slice B1 e'.qual.length d1, .int .i64 e'.ts, .int .i64 e'.seq, .int .i64 e'.kind, .slice D1 e'.val.length q1] rfl rfl (by kernel_rfl) (by simp [Value.oneCell']) ?_
            intro v1 hz _
            replace HS := Lib.hid hz
            clear hz
            simp only [Act.put]
            refine lt_end 13 rfl (by kernel_rfl) rfl (by kernel_rfl) ?_
            refine wpo_put rfl HS.out 7 rfl rfl [.slice A2 e'.row.length c2, .int .i64 e'.fam, .slice B2 e'.qual.length d2, .int .i64 e'.ts, .int .i64 e'.seq, .int .i64 e'.kind, .slice D2 e'.val.length q2] rfl rfl (by kernel_rfl) (by simp [Value.oneCell']) ?_
            intro v2 hz _
            replace HS := Lib.hid hz
            clear hz
            simp only [Act.put]
            refine lt_done (by kernel_rfl) ?_
            have HS9 : Hid (OW w5 [bytO 5 (A1, c1, e'.row ++ mkL 70), bytO 5 (B1, d1, e'.qual ++ mkL 70), bytO 5 (D1, q1, e'.val ++ mkL 70), bytO 5 (A2, c2, e'.row ++ mkL 70), bytO 5 (B2, d2, e'.qual ++ mkL 70), bytO 5 (D2, q2, e'.val ++ mkL 70), boxO gi [.slice A1 e'.row.length c1, .int .i64 e'.fam, .slice B1 e'.qual.length d1, .int .i64 e'.ts, .int .i64 e'.seq, .int .i64 e'.kind, .slice D1 e'.val.length q1], boxO gd [.slice A2 e'.row.length c2, .int .i64 e'.fam, .slice B2 e'.qual.length d2, .int .i64 e'.ts, .int .i64 e'.seq, .int .i64 e'.kind, .slice D2 e'.val.length q2]] _) := HS
            go_wp2_with fail
            go_meet
            exact ⟨A1, c1, B1, d1, D1, q1, A2, c2, B2, d2, D2, q2, gi, gd, rfl, rfl, Lib.hid (HS9.out.perm (by (refine perm_of_cnt fun a => ?_; (simp only [cntO_app, cntO_cons, cntO_nil]) <;> omega)))⟩
          · refine wpo_alloc rfl [.slice none 0 0, .int .i64 0, .slice none 0 0, .int .i64 0, .int .i64 0, .int .i64 0, .slice none 0 0] (.inl (by kernel_rfl)) HS.out ?_
            intro gd ugd hz _
            replace HS := Lib.hid hz
            clear hz
            refine ⟨fun _ => HS.out.up, ?_⟩
            simp only [Act.put, List.setIfInBounds_toArray, List.set_cons_zero, List.set_cons_succ]
            refine lt_op 10 rfl (by kernel_rfl) rfl ?_
            refine wpo_alloc rfl [.slice none 0 0, .int .i64 0, .slice none 0 0, .int .i64 0, .int .i64 0, .int .i64 0, .slice none 0 0] (.inl (by kernel_rfl)) HS.out ?_
            intro gi ugi hz _
            replace HS := Lib.hid hz
            clear hz
            refine ⟨fun _ => HS.out.up, ?_⟩
            simp only [Act.put, List.setIfInBounds_toArray, List.set_cons_zero, List.set_cons_succ]
            refine lt_end 12 rfl (by kernel_rfl) rfl (by kernel_rfl) ?_
            refine wpo_put rfl HS.out 7 rfl rfl [.slice A1 e'.row.length c1, .int .i64 e'.fam, .slice B1 e'.qual.length d1, .int .i64 e'.ts, .int .i64 e'.seq, .int .i64 e'.kind, .slice D1 e'.val.length q1] rfl rfl (by kernel_rfl) (by simp [Value.oneCell']) ?_
            intro v1 hz _
            replace HS := Lib.hid hz
            clear hz
            simp only [Act.put]
            refine lt_end 13 rfl (by kernel_rfl) rfl (by kernel_rfl) ?_
            refine wpo_put rfl HS.out 6 rfl rfl [.slice A2 e'.row.length c2, .int .i64 e'.fam, .slice B2 e'.qual.length d2, .int .i64 e'.ts, .int .i64 e'.seq, .int .i64 e'.kind, .slice D2 e'.val.length q2] rfl rfl (by kernel_rfl) (by simp [Value.oneCell']) ?_
            intro v2 hz _
            replace HS := Lib.hid hz
            clear hz
            simp only [Act.put]
            refine lt_done (by kernel_rfl) ?_
            have HS9 : Hid (OW w5 [bytO 5 (A1, c1, e'.row ++ mkL 70), bytO 5 (B1, d1, e'.qual ++ mkL 70), bytO 5 (D1, q1, e'.val ++ mkL 70), bytO 5 (A2, c2, e'.row ++ mkL 70), bytO 5 (B2, d2, e'.qual ++ mkL 70), bytO 5 (D2, q2, e'.val ++ mkL 70), boxO gd [.slice A2 e'.row.length c2, .int .i64 e'.fam, .slice B2 e'.qual.length d2, .int .i64 e'.ts, .int .i64 e'.seq, .int .i64 e'.kind, .slice D2 e'.val.length q2], boxO gi [.slice A1 e'.row.length c1, .int .i64 e'.fam, .slice B1 e'.qual.length d1, .int .i64 e'.ts, .int .i64 e'.seq, .int .i64 e'.kind, .slice D1 e'.val.length q1]] _) := HS
            go_wp2_with fail
            go_meet
            exact ⟨A1, c1, B1, d1, D1, q1, A2, c2, B2, d2, D2, q2, gi, gd, rfl, rfl, Lib.hid (HS9.out.perm (by (refine perm_of_cnt fun a => ?_; (simp only [cntO_app, cntO_cons, cntO_nil]) <;> omega)))⟩
        · refine wpo_alloc rfl [.slice none 0 0, .int .i64 0, .slice none 0 0, .int .i64 0, .int .i64 0, .int .i64 0, .slice none 0 0] (.inl (by kernel_rfl)) HS.out ?_
          intro gi ugi hz _
          replace HS := Lib.hid hz
          clear hz
          refine ⟨fun _ => HS.out.up, ?_⟩
          simp only [Act.put, List.setIfInBounds_toArray, List.set_cons_zero, List.set_cons_succ]
          refine lt_two 9 11 rfl rfl (by kernel_rfl) rfl rfl ?_ ?_
          · refine wp_callL rfl ⟨_, Tryd.func32, by decide, by kernel_rfl⟩ [entV Ar e.row.length ec B e.qual.length d D e.val.length q e] rfl ?_
            refine (entry5_any e Ar _ ec B _ d D _ q _ (HEN.out _ (below_up HW5.out HS.out.up))).mono ?_
            rw [HE'.out]
            rintro r z2 ⟨A2, B2, D2, c2, d2, q2, rfl, ho⟩
            replace HS := Lib.hid (HS.out.app ho)
            clear ho
            refine ⟨_, rfl, ?_⟩
            refine ⟨fun _ => HS.out.up, ?_⟩
            simp only [Act.put, List.setIfInBounds_toArray, List.set_cons_zero, List.set_cons_succ]
            refine lt_op 11 rfl (by kernel_rfl) rfl ?_
            refine wpo_alloc rfl [.slice none 0 0, .int .i64 0, .slice none 0 0, .int .i64 0, .int .i64 0, .int .i64 0, .slice none 0 0] (.inl (by kernel_rfl)) HS.out ?_
            intro gd ugd hz _
            replace HS := Lib.hid hz
            clear hz
            refine ⟨fun _ => HS.out.up, ?_⟩
            simp only [Act.put, List.setIfInBounds_toArray, List.set_cons_zero, List.set_cons_succ]
            refine lt_end 12 rfl (by kernel_rfl) rfl (by kernel_rfl) ?_
            refine wpo_put rfl HS.out 3 rfl rfl [.slice A1 e'.row.length c1, .int .i64 e'.fam, .slice B1 e'.qual.length d1, .int .i64 e'.ts, .int .i64 e'.seq, .int .i64 e'.kind, .slice D1 e'.val.length q1] rfl rfl (by kernel_rfl) (by simp [Value.oneCell']) ?_
            intro v1 hz _
            replace HS := Lib.hid hz
            clear hz
            simp only [Act.put]
            refine lt_end 13 rfl (by kernel_rfl) rfl (by kernel_rfl) ?_
            refine wpo_put rfl HS.out 7 rfl rfl [.slice A2 e'.row.length c2, .int .i64 e'.fam, .slice B2 e'.qual.length d2, .int .i64 e'.ts, .int .i64 e'.seq, .int .i64 e'.kind, .slice D2 e'.val.length q2] rfl rfl (by kernel_rfl) (by simp [Value.oneCell']) ?_
            intro v2 hz _
            replace HS := Lib.hid hz
            clear hz
            simp only [Act.put]
            refine lt_done (by kernel_rfl) ?_
            have HS9 : Hid (OW w5 [bytO 5 (A1, c1, e'.row ++ mkL 70), bytO 5 (B1, d1, e'.qual ++ mkL 70), bytO 5 (D1, q1, e'.val ++ mkL 70), boxO gi [.slice A1 e'.row.length c1, .int .i64 e'.fam, .slice B1 e'.qual.length d1, .int .i64 e'.ts, .int .i64 e'.seq, .int .i64 e'.kind, .slice D1 e'.val.length q1], bytO 5 (A2, c2, e'.row ++ mkL 70), bytO 5 (B2, d2, e'.qual ++ mkL 70), bytO 5 (D2, q2, e'.val ++ mkL 70), boxO gd [.slice A2 e'.row.length c2, .int .i64 e'.fam, .slice B2 e'.qual.length d2, .int .i64 e'.ts, .int .i64 e'.seq, .int .i64 e'.kind, .slice D2 e'.val.length q2]] _) := HS
            go_wp2_with fail
            go_meet
            exact ⟨A1, c1, B1, d1, D1, q1, A2, c2, B2, d2, D2, q2, gi, gd, rfl, rfl, Lib.hid (HS9.out.perm (by (refine perm_of_cnt fun a => ?_; (simp only [cntO_app, cntO_cons, cntO_nil]) <;> omega)))⟩
          · refine wpo_alloc rfl [.slice none 0 0, .int .i64 0, .slice none 0 0, .int .i64 0, .int .i64 0, .int .i64 0, .slice none 0 0] (.inl (by kernel_rfl)) HS.out ?_
            intro gd ugd hz _
            replace HS := Lib.hid hz
            clear hz
            refine ⟨fun _ => HS.out.up, ?_⟩
            simp only [Act.put, List.setIfInBounds_toArray, List.set_cons_zero, List.set_cons_succ]
            refine lt_op 9 rfl (by kernel_rfl) rfl ?_
            refine wp_callL rfl ⟨_, Tryd.func32, by decide, by kernel_rfl⟩ [entV Ar e.row.length ec B e.qual.length d D e.val.length q e] rfl ?_
            refine (entry5_any e Ar _ ec B _ d D _ q _ (HEN.out _ (below_up HW5.out HS.out.up))).mono ?_
            rw [HE'.out]
            rintro r z2 ⟨A2, B2, D2, c2, d2, q2, rfl, ho⟩
            replace HS := Lib.hid (HS.out.app ho)
            clear ho
            refine ⟨_, rfl, ?_⟩
            refine ⟨fun _ => HS.out.up, ?_⟩
            simp only [Act.put, List.setIfInBounds_toArray, List.set_cons_zero, List.set_cons_succ]
            refine lt_end 12 rfl (by kernel_rfl) rfl (by kernel_rfl) ?_
            refine wpo_put rfl HS.out 3 rfl rfl [.slice A1 e'.row.length c1, .int .i64 e'.fam, .slice B1 e'.qual.length d1, .int .i64 e'.ts, .int .i64 e'.seq, .int .i64 e'.kind, .slice D1 e'.val.length q1] rfl rfl (by kernel_rfl) (by simp [Value.oneCell']) ?_
            intro v1 hz _
            replace HS := Lib.hid hz
            clear hz
            simp only [Act.put]
            refine lt_end 13 rfl (by kernel_rfl) rfl (by kernel_rfl) ?_
            refine wpo_put rfl HS.out 4 rfl rfl [.slice A2 e'.row.length c2, .int .i64 e'.fam, .slice B2 e'.qual.length d2, .int .i64 e'.ts, .int .i64 e'.seq, .int .i64 e'.kind, .slice D2 e'.val.length q2] rfl rfl (by kernel_rfl) (by simp [Value.oneCell']) ?_
            intro v2 hz _
            replace HS := Lib.hid hz
            clear hz
            simp only [Act.put]
            refine lt_done (by kernel_rfl) ?_
            have HS9 : Hid (OW w5 [bytO 5 (A1, c1, e'.row ++ mkL 70), bytO 5 (B1, d1, e'.qual ++ mkL 70), bytO 5 (D1, q1, e'.val ++ mkL 70), boxO gi [.slice A1 e'.row.length c1, .int .i64 e'.fam, .slice B1 e'.qual.length d1, .int .i64 e'.ts, .int .i64 e'.seq, .int .i64 e'.kind, .slice D1 e'.val.length q1], boxO gd [.slice A2 e'.row.length c2, .int .i64 e'.fam, .slice B2 e'.qual.length d2, .int .i64 e'.ts, .int .i64 e'.seq, .int .i64 e'.kind, .slice D2 e'.val.length q2], bytO 5 (A2, c2, e'.row ++ mkL 70), bytO 5 (B2, d2, e'.qual ++ mkL 70), bytO 5 (D2, q2, e'.val ++ mkL 70)] _) := HS
            go_wp2_with fail
            go_meet
            exact ⟨A1, c1, B1, d1, D1, q1, A2, c2, B2, d2, D2, q2, gi, gd, rfl, rfl, Lib.hid (HS9.out.perm (by (refine perm_of_cnt fun a => ?_; (simp only [cntO_app, cntO_cons, cntO_nil]) <;> omega)))⟩
        · refine wpo_alloc rfl [.slice none 0 0, .int .i64 0, .slice none 0 0, .int .i64 0, .int .i64 0, .int .i64 0, .slice none 0 0] (.inl (by kernel_rfl)) HS.out ?_
          intro gd ugd hz _
          replace HS := Lib.hid hz
          clear hz
          refine ⟨fun _ => HS.out.up, ?_⟩
          simp only [Act.put, List.setIfInBounds_toArray, List.set_cons_zero, List.set_cons_succ]
          refine lt_two 9 10 rfl rfl (by kernel_rfl) rfl rfl ?_ ?_
          · refine wp_callL rfl ⟨_, Tryd.func32, by decide, by kernel_rfl⟩ [entV Ar e.row.length ec B e.qual.length d D e.val.length q e] rfl ?_
            refine (entry5_any e Ar _ ec B _ d D _ q _ (HEN.out _ (below_up HW5.out HS.out.up))).mono ?_
            rw [HE'.out]
            rintro r z2 ⟨A2, B2, D2, c2, d2, q2, rfl, ho⟩
            replace HS := Lib.hid (HS.out.app ho)
            clear ho
            refine ⟨_, rfl, ?_⟩
            refine ⟨fun _ => HS.out.up, ?_⟩
            simp only [Act.put, List.setIfInBounds_toArray, List.set_cons_zero, List.set_cons_succ]
            refine lt_op 10 rfl (by kernel_rfl) rfl ?_
            refine wpo_alloc rfl [.slice none 0 0, .int .i64 0, .slice none 0 0, .int .i64 0, .int .i64 0, .int .i64 0, .slice none 0 0] (.inl (by kernel_rfl)) HS.out ?_
            intro gi ugi hz _
            replace HS := Lib.hid hz
            clear hz
            refine ⟨fun _ => HS.out.up, ?_⟩
            simp only [Act.put, List.setIfInBounds_toArray, List.set_cons_zero, List.set_cons_succ]
            refine lt_end 12 rfl (by kernel_rfl) rfl (by kernel_rfl) ?_
            refine wpo_put rfl HS.out 7 rfl rfl [.slice A1 e'.row.length c1, .int .i64 e'.fam, .slice B1 e'.qual.length d1, .int .i64 e'.ts, .int .i64 e'.seq, .int .i64 e'.kind, .slice D1 e'.val.length q1] rfl rfl (by kernel_rfl) (by simp [Value.oneCell']) ?_
            intro v1 hz _
            replace HS := Lib.hid hz
            clear hz
            simp only [Act.put]
            refine lt_end 13 rfl (by kernel_rfl) rfl (by kernel_rfl) ?_
            refine wpo_put rfl HS.out 3 rfl rfl [.slice A2 e'.row.length c2, .int .i64 e'.fam, .slice B2 e'.qual.length d2, .int .i64 e'.ts, .int .i64 e'.seq, .int .i64 e'.kind, .slice D2 e'.val.length q2] rfl rfl (by kernel_rfl) (by simp [Value.oneCell']) ?_
            intro v2 hz _
            replace HS := Lib.hid hz
            clear hz
            simp only [Act.put]
            refine lt_done (by kernel_rfl) ?_
            have HS9 : Hid (OW w5 [bytO 5 (A1, c1, e'.row ++ mkL 70), bytO 5 (B1, d1, e'.qual ++ mkL 70), bytO 5 (D1, q1, e'.val ++ mkL 70), boxO gd [.slice A2 e'.row.length c2, .int .i64 e'.fam, .slice B2 e'.qual.length d2, .int .i64 e'.ts, .int .i64 e'.seq, .int .i64 e'.kind, .slice D2 e'.val.length q2], bytO 5 (A2, c2, e'.row ++ mkL 70), bytO 5 (B2, d2, e'.qual ++ mkL 70), bytO 5 (D2, q2, e'.val ++ mkL 70), boxO gi [.slice A1 e'.row.length c1, .int .i64 e'.fam, .slice B1 e'.qual.length d1, .int .i64 e'.ts, .int .i64 e'.seq, .int .i64 e'.kind, .slice D1 e'.val.length q1]] _) := HS
            go_wp2_with fail
            go_meet
            exact ⟨A1, c1, B1, d1, D1, q1, A2, c2, B2, d2, D2, q2, gi, gd, rfl, rfl, Lib.hid (HS9.out.perm (by (refine perm_of_cnt fun a => ?_; (simp only [cntO_app, cntO_cons, cntO_nil]) <;> omega)))⟩
          · refine wpo_alloc rfl [.slice none 0 0, .int .i64 0, .slice none 0 0, .int .i64 0, .int .i64 0, .int .i64 0, .slice none 0 0] (.inl (by kernel_rfl)) HS.out ?_
            intro gi ugi hz _
            replace HS := Lib.hid hz
            clear hz
            refine ⟨fun _ => HS.out.up, ?_⟩
            simp only [Act.put, List.setIfInBounds_toArray, List.set_cons_zero, List.set_cons_succ]
            refine lt_op 9 rfl (by kernel_rfl) rfl ?_
            refine wp_callL rfl ⟨_, Tryd.func32, by decide, by kernel_rfl⟩ [entV Ar e.row.length ec B e.qual.length d D e.val.length q e] rfl ?_
            refine (entry5_any e Ar _ ec B _ d D _ q _ (HEN.out _ (below_up HW5.out HS.out.up))).mono ?_
            rw [HE'.out]
            rintro r z2 ⟨A2, B2, D2, c2, d2, q2, rfl, ho⟩
            replace HS := Lib.hid (HS.out.app ho)
            clear ho
            refine ⟨_, rfl, ?_⟩
            refine ⟨fun _ => HS.out.up, ?_⟩
            simp only [Act.put, List.setIfInBounds_toArray, List.set_cons_zero, List.set_cons_succ]
            refine lt_end 12 rfl (by kernel_rfl) rfl (by kernel_rfl) ?_
            refine wpo_put rfl HS.out 4 rfl rfl [.slice A1 e'.row.length c1, .int .i64 e'.fam, .slice B1 e'.qual.length d1, .int .i64 e'.ts, .int .i64 e'.seq, .int .i64 e'.kind, .slice D1 e'.val.length q1] rfl rfl (by kernel_rfl) (by simp [Value.oneCell']) ?_
            intro v1 hz _
            replace HS := Lib.hid hz
            clear hz
            simp only [Act.put]
            refine lt_end 13 rfl (by kernel_rfl) rfl (by kernel_rfl) ?_
            refine wpo_put rfl HS.out 3 rfl rfl [.slice A2 e'.row.length c2, .int .i64 e'.fam, .slice B2 e'.qual.length d2, .int .i64 e'.ts, .int .i64 e'.seq, .int .i64 e'.kind, .slice D2 e'.val.length q2] rfl rfl (by kernel_rfl) (by simp [Value.oneCell']) ?_
            intro v2 hz _
            replace HS := Lib.hid hz
            clear hz
            simp only [Act.put]
            refine lt_done (by kernel_rfl) ?_
            have HS9 : Hid (OW w5 [bytO 5 (A1, c1, e'.row ++ mkL 70), bytO 5 (B1, d1, e'.qual ++ mkL 70), bytO 5 (D1, q1, e'.val ++ mkL 70), boxO gd [.slice A2 e'.row.length c2, .int .i64 e'.fam, .slice B2 e'.qual.length d2, .int .i64 e'.ts, .int .i64 e'.seq, .int .i64 e'.kind, .slice D2 e'.val.length q2], boxO gi [.slice A1 e'.row.length c1, .int .i64 e'.fam, .slice B1 e'.qual.length d1, .int .i64 e'.ts, .int .i64 e'.seq, .int .i64 e'.kind, .slice D1 e'.val.length q1], bytO 5 (A2, c2, e'.row ++ mkL 70), bytO 5 (B2, d2, e'.qual ++ mkL 70), bytO 5 (D2, q2, e'.val ++ mkL 70)] _) := HS
            go_wp2_with fail
            go_meet
            exact ⟨A1, c1, B1, d1, D1, q1, A2, c2, B2, d2, D2, q2, gi, gd, rfl, rfl, Lib.hid (HS9.out.perm (by (refine perm_of_cnt fun a => ?_; (simp only [cntO_app, cntO_cons, cntO_nil]) <;> omega)))⟩
      · refine wpo_alloc rfl [.slice none 0 0, .int .i64 0, .slice none 0 0, .int .i64 0, .int .i64 0, .int .i64 0, .slice none 0 0] (.inl (by kernel_rfl)) HS.out ?_
        intro gi ugi hz _
        replace HS := Lib.hid hz
        clear hz
        refine ⟨fun _ => HS.out.up, ?_⟩
        simp only [Act.put, List.setIfInBounds_toArray, List.set_cons_zero, List.set_cons_succ]
        refine lt_two 4 11 rfl rfl (by kernel_rfl) rfl rfl ?_ ?_
        · refine wp_callL rfl ⟨_, Tryd.func32, by decide, by kernel_rfl⟩ [entV Ar e.row.length ec B e.qual.length d D e.val.length q e] rfl ?_
          refine (entry5_any e Ar _ ec B _ d D _ q _ (HEN.out _ (below_up HW5.out HS.out.up))).mono ?_
          rw [HE'.out]
          rintro r z1 ⟨A1, B1, D1, c1, d1, q1, rfl, ho⟩
          replace HS := Lib.hid (HS.out.app ho)
          clear ho
          refine ⟨_, rfl, ?_⟩
          refine ⟨fun _ => HS.out.up, ?_⟩
          simp only [Act.put, List.setIfInBounds_toArray, List.set_cons_zero, List.set_cons_succ]
          refine lt_two 9 11 rfl rfl (by kernel_rfl) rfl rfl ?_ ?_
          · refine wp_callL rfl ⟨_, Tryd.func32, by decide, by kernel_rfl⟩ [entV Ar e.row.length ec B e.qual.length d D e.val.length q e] rfl ?_
            refine (entry5_any e Ar _ ec B _ d D _ q _ (HEN.out _ (below_up HW5.out HS.out.up))).mono ?_
            rw [HE'.out]
            rintro r z2 ⟨A2, B2, D2, c2, d2, q2, rfl, ho⟩
            replace HS := Lib.hid (HS.out.app ho)
            clear ho
            refine ⟨_, rfl, ?_⟩
            refine ⟨fun _ => HS.out.up, ?_⟩
            simp only [Act.put, List.setIfInBounds_toArray, List.set_cons_zero, List.set_cons_succ]
            refine lt_op 11 rfl (by kernel_rfl) rfl ?_
            refine wpo_alloc rfl [.slice none 0 0, .int .i64 0, .slice none 0 0, .int .i64 0, .int .i64 0, .int .i64 0, .slice none 0 0] (.inl (by kernel_rfl)) HS.out ?_
            intro gd ugd hz _
            replace HS := Lib.hid hz
            clear hz
            refine ⟨fun _ => HS.out.up, ?_⟩
            simp only [Act.put, List.setIfInBounds_toArray, List.set_cons_zero, List.set_cons_succ]
            refine lt_end 12 rfl (by kernel_rfl) rfl (by kernel_rfl) ?_
            refine wpo_put rfl HS.out 0 rfl rfl [.slice A1 e'.row.length c1, .int .i64 e'.fam, .slice B1 e'.qual.length d1, .int .i64 e'.ts, .int .i64 e'.seq, .int .i64 e'.kind, .slice D1 e'.val.length q1] rfl rfl (by kernel_rfl) (by simp [Value.oneCell']) ?_
            intro v1 hz _
            replace HS := Lib.hid hz
            clear hz
            simp only [Act.put]
            refine lt_end 13 rfl (by kernel_rfl) rfl (by kernel_rfl) ?_
            refine wpo_put rfl HS.out 7 rfl rfl [.slice A2 e'.row.length c2, .int .i64 e'.fam, .slice B2 e'.qual.length d2, .int .i64 e'.ts, .int .i64 e'.seq, .int .i64 e'.kind, .slice D2 e'.val.length q2] rfl rfl (by kernel_rfl) (by simp [Value.oneCell']) ?_
            intro v2 hz _
            replace HS := Lib.hid hz
            clear hz
            simp only [Act.put]
            refine lt_done (by kernel_rfl) ?_
            have HS9 : Hid (OW w5 [boxO gi [.slice A1 e'.row.length c1, .int .i64 e'.fam, .slice B1 e'.qual.length d1, .int .i64 e'.ts, .int .i64 e'.seq, .int .i64 e'.kind, .slice D1 e'.val.length q1], bytO 5 (A1, c1, e'.row ++ mkL 70), bytO 5 (B1, d1, e'.qual ++ mkL 70), bytO 5 (D1, q1, e'.val ++ mkL 70), bytO 5 (A2, c2, e'.row ++ mkL 70), bytO 5 (B2, d2, e'.qual ++ mkL 70), bytO 5 (D2, q2, e'.val ++ mkL 70), boxO gd [.slice A2 e'.row.length c2, .int .i64 e'.fam, .slice B2 e'.qual.length d2, .int .i64 e'.ts, .int .i64 e'.seq, .int .i64 e'.kind, .slice D2 e'.val.length q2]] _) := HS
            go_wp2_with fail
            go_meet
            exact ⟨A1, c1, B1, d1, D1, q1, A2, c2, B2, d2, D2, q2, gi, gd, rfl, rfl, Lib.hid (HS9.out.perm (by (refine perm_of_cnt fun a => ?_; (simp only [cntO_app, cntO_cons, cntO_nil]) <;> omega)))⟩
          · refine wpo_alloc rfl [.slice none 0 0, .int .i64 0, .slice none 0 0, .int .i64 0, .int .i64 0, .int .i64 0, .slice none 0 0] (.inl (by kernel_rfl)) HS.out ?_
            intro gd ugd hz _
            replace HS := Lib.hid hz
            clear hz
            refine ⟨fun _ => HS.out.up, ?_⟩
            simp only [Act.put, List.setIfInBounds_toArray, List.set_cons_zero, List.set_cons_succ]
            refine lt_op 9 rfl (by kernel_rfl) rfl ?_
            refine wp_callL rfl ⟨_, Tryd.func32, by decide, by kernel_rfl⟩ [entV Ar e.row.length ec B e.qual.length d D e.val.length q e] rfl ?_
            refine (entry5_any e Ar _ ec B _ d D _ q _ (HEN.out _ (below_up HW5.out HS.out.up))).mono ?_
            rw [HE'.out]
            rintro r z2 ⟨A2, B2, D2, c2, d2, q2, rfl, ho⟩
            replace HS := Lib.hid (HS.out.app ho)
            clear ho
            refine ⟨_, rfl, ?_⟩
            refine ⟨fun _ => HS.out.up, ?_⟩
            simp only [Act.put, List.setIfInBounds_toArray, List.set_cons_zero, List.set_cons_succ]
            refine lt_end 12 rfl (by kernel_rfl) rfl (by kernel_rfl) ?_
            refine wpo_put rfl HS.out 0 rfl rfl [.slice A1 e'.row.length c1, .int .i64 e'.fam, .slice B1 e'.qual.length d1, .int .i64 e'.ts, .int .i64 e'.seq, .int .i64 e'.kind, .slice D1 e'.val.length q1] rfl rfl (by kernel_rfl) (by simp [Value.oneCell']) ?_
            intro v1 hz _
            replace HS := Lib.hid hz
            clear hz
            simp only [Act.put]
            refine lt_end 13 rfl (by kernel_rfl) rfl (by kernel_rfl) ?_
            refine wpo_put rfl HS.out 4 rfl rfl [.slice A2 e'.row.length c2, .int .i64 e'.fam, .slice B2 e'.qual.length d2, .int .i64 e'.ts, .int .i64 e'.seq, .int .i64 e'.kind, .slice D2 e'.val.length q2] rfl rfl (by kernel_rfl) (by simp [Value.oneCell']) ?_
            intro v2 hz _
            replace HS := Lib.hid hz
            clear hz
            simp only [Act.put]
            refine lt_done (by kernel_rfl) ?_
            have HS9 : Hid (OW w5 [boxO gi [.slice A1 e'.row.length c1, .int .i64 e'.fam, .slice B1 e'.qual.length d1, .int .i64 e'.ts, .int .i64 e'.seq, .int .i64 e'.kind, .slice D1 e'.val.length q1], bytO 5 (A1, c1, e'.row ++ mkL 70), bytO 5 (B1, d1, e'.qual ++ mkL 70), bytO 5 (D1, q1, e'.val ++ mkL 70), boxO gd [.slice A2 e'.row.length c2, .int .i64 e'.fam, .slice B2 e'.qual.length d2, .int .i64 e'.ts, .int .i64 e'.seq, .int .i64 e'.kind, .slice D2 e'.val.length q2], bytO 5 (A2, c2, e'.row ++ mkL 70), bytO 5 (B2, d2, e'.qual ++ mkL 70), bytO 5 (D2, q2, e'.val ++ mkL 70)] _) := HS
            go_wp2_with fail
            go_meet
            exact ⟨A1, c1, B1, d1, D1, q1, A2, c2, B2, d2, D2, q2, gi, gd, rfl, rfl, Lib.hid (HS9.out.perm (by (refine perm_of_cnt fun a => ?_; (simp only [cntO_app, cntO_cons, cntO_nil]) <;> omega)))⟩
        · refine wpo_alloc rfl [.slice none 0 0, .int .i64 0, .slice none 0 0, .int .i64 0, .int .i64 0, .int .i64 0, .slice none 0 0] (.inl (by kernel_rfl)) HS.out ?_
          intro gd ugd hz _
          replace HS := Lib.hid hz
          clear hz
          refine ⟨fun _ => HS.out.up, ?_⟩
          simp only [Act.put, List.setIfInBounds_toArray, List.set_cons_zero, List.set_cons_succ]
          refine lt_op 4 rfl (by kernel_rfl) rfl ?_
          refine wp_callL rfl ⟨_, Tryd.func32, by decide, by kernel_rfl⟩ [entV Ar e.row.length ec B e.qual.length d D e.val.length q e] rfl ?_
          refine (entry5_any e Ar _ ec B _ d D _ q _ (HEN.out _ (below_up HW5.out HS.out.up))).mono ?_
          rw [HE'.out]
          rintro r z1 ⟨A1, B1, D1, c1, d1, q1, rfl, ho⟩
          replace HS := Lib.hid (HS.out.app ho)
          clear ho
          refine ⟨_, rfl, ?_⟩
          refine ⟨fun _ => HS.out.up, ?_⟩
          simp only [Act.put, List.setIfInBounds_toArray, List.set_cons_zero, List.set_cons_succ]
          refine lt_op 9 rfl (by kernel_rfl) rfl ?_
          refine wp_callL rfl ⟨_, Tryd.func32, by decide, by kernel_rfl⟩ [entV Ar e.row.length ec B e.qual.length d D e.val.length q e] rfl ?_
          refine (entry5_any e Ar _ ec B _ d D _ q _ (HEN.out _ (below_up HW5.out HS.out.up))).mono ?_
          rw [HE'.out]
          rintro r z2 ⟨A2, B2, D2, c2, d2, q2, rfl, ho⟩
          replace HS := Lib.hid (HS.out.app ho)
          clear ho
          refine ⟨_, rfl, ?_⟩
          refine ⟨fun _ => HS.out.up, ?_⟩
          simp only [Act.put, List.setIfInBounds_toArray, List.set_cons_zero, List.set_cons_succ]
          refine lt_end 12 rfl (by kernel_rfl) rfl (by kernel_rfl) ?_
          refine wpo_put rfl HS.out 0 rfl rfl [.slice A1 e'.row.length c1, .int .i64 e'.fam, .slice B1 e'.qual.length d1, .int .i64 e'.ts, .int .i64 e'.seq, .int .i64 e'.kind, .slice D1 e'.val.length q1] rfl rfl (by kernel_rfl) (by simp [Value.oneCell']) ?_
          intro v1 hz _
          replace HS := Lib.hid hz
          clear hz
          simp only [Act.put]
          refine lt_end 13 rfl (by kernel_rfl) rfl (by kernel_rfl) ?_
          refine wpo_put rfl HS.out 1 rfl rfl [.slice A2 e'.row.length c2, .int .i64 e'.fam, .slice B2 e'.qual.length d2, .int .i64 e'.ts, .int .i64 e'.seq, .int .i64 e'.kind, .slice D2 e'.val.length q2] rfl rfl (by kernel_rfl) (by simp [Value.oneCell']) ?_
          intro v2 hz _
          replace HS := Lib.hid hz
          clear hz
          simp only [Act.put]
          refine lt_done (by kernel_rfl) ?_
          have HS9 : Hid (OW w5 [boxO gi [.slice A1 e'.row.length c1, .int .i64 e'.fam, .slice B1 e'.qual.length d1, .int .i64 e'.ts, .int .i64 e'.seq, .int .i64 e'.kind, .slice D1 e'.val.length q1], boxO gd [.slice A2 e'.row.length c2, .int .i64 e'.fam, .slice B2 e'.qual.length d2, .int .i64 e'.ts, .int .i64 e'.seq, .int .i64 e'.kind, .slice D2 e'.val.length q2], bytO 5 (A1, c1, e'.row ++ mkL 70), bytO 5 (B1, d1, e'.qual ++ mkL 70), bytO 5 (D1, q1, e'.val ++ mkL 70), bytO 5 (A2, c2, e'.row ++ mkL 70), bytO 5 (B2, d2, e'.qual ++ mkL 70), bytO 5 (D2, q2, e'.val ++ mkL 70)] _) := HS
          go_wp2_with fail
          go_meet
          exact ⟨A1, c1, B1, d1, D1, q1, A2, c2, B2, d2, D2, q2, gi, gd, rfl, rfl, Lib.hid (HS9.out.perm (by (refine perm_of_cnt fun a => ?_; (simp only [cntO_app, cntO_cons, cntO_nil]) <;> omega)))⟩
      · refine wpo_alloc rfl [.slice none 0 0, .int .i64 0, .slice none 0 0, .int .i64 0, .int .i64 0, .int .i64 0, .slice none 0 0] (.inl (by kernel_rfl)) HS.out ?_
        intro gd ugd hz _
        replace HS := Lib.hid hz
        clear hz
        refine ⟨fun _ => HS.out.up, ?_⟩
        simp only [Act.put, List.setIfInBounds_toArray, List.set_cons_zero, List.set_cons_succ]
        refine lt_two 4 10 rfl rfl (by kernel_rfl) rfl rfl ?_ ?_
        · refine wp_callL rfl ⟨_, Tryd.func32, by decide, by kernel_rfl⟩ [entV Ar e.row.length ec B e.qual.length d D e.val.length q e] rfl ?_
          refine (entry5_any e Ar _ ec B _ d D _ q _ (HEN.out _ (below_up HW5.out HS.out.up))).mono ?_
          rw [HE'.out]
          rintro r z1 ⟨A1, B1, D1, c1, d1, q1, rfl, ho⟩
          replace HS := Lib.hid (HS.out.app ho)
          clear ho
          refine ⟨_, rfl, ?_⟩
          refine ⟨fun _ => HS.out.up, ?_⟩
          simp only [Act.put, List.setIfInBounds_toArray, List.set_cons_zero, List.set_cons_succ]
          refine lt_two 9 10 rfl rfl (by kernel_rfl) rfl rfl ?_ ?_
          · refine wp_callL rfl ⟨_, Tryd.func32, by decide, by kernel_rfl⟩ [entV Ar e.row.length ec B e.qual.length d D e.val.length q e] rfl ?_
            refine (entry5_any e Ar _ ec B _ d D _ q _ (HEN.out _ (below_up HW5.out HS.out.up))).mono ?_
            rw [HE'.out]
            rintro r z2 ⟨A2, B2, D2, c2, d2, q2, rfl, ho⟩
            replace HS := Lib.hid (HS.out.app ho)
            clear ho
            refine ⟨_, rfl, ?_⟩
            refine ⟨fun _ => HS.out.up, ?_⟩
            simp only [Act.put, List.setIfInBounds_toArray, List.set_cons_zero, List.set_cons_succ]
            refine lt_op 10 rfl (by kernel_rfl) rfl ?_
            refine wpo_alloc rfl [.slice none 0 0, .int .i64 0, .slice none 0 0, .int .i64 0, .int .i64 0, .int .i64 0, .slice none 0 0] (.inl (by kernel_rfl)) HS.out ?_
            intro gi ugi hz _
            replace HS := Lib.hid hz
            clear hz
            refine ⟨fun _ => HS.out.up, ?_⟩
            simp only [Act.put, List.setIfInBounds_toArray, List.set_cons_zero, List.set_cons_succ]
            refine lt_end 12 rfl (by kernel_rfl) rfl (by kernel_rfl) ?_
            refine wpo_put rfl HS.out 7 rfl rfl [.slice A1 e'.row.length c1, .int .i64 e'.fam, .slice B1 e'.qual.length d1, .int .i64 e'.ts, .int .i64 e'.seq, .int .i64 e'.kind, .slice D1 e'.val.length q1] rfl rfl (by kernel_rfl) (by simp [Value.oneCell']) ?_
            intro v1 hz _
            replace HS := Lib.hid hz
            clear hz
            simp only [Act.put]
            refine lt_end 13 rfl (by kernel_rfl) rfl (by kernel_rfl) ?_
            refine wpo_put rfl HS.out 0 rfl rfl [.slice A2 e'.row.length c2, .int .i64 e'.fam, .slice B2 e'.qual.length d2, .int .i64 e'.ts, .int .i64 e'.seq, .int .i64 e'.kind, .slice D2 e'.val.length q2] rfl rfl (by kernel_rfl) (by simp [Value.oneCell']) ?_
            intro v2 hz _
            replace HS := Lib.hid hz
            clear hz
            simp only [Act.put]
            refine lt_done (by kernel_rfl) ?_
            have HS9 : Hid (OW w5 [boxO gd [.slice A2 e'.row.length c2, .int .i64 e'.fam, .slice B2 e'.qual.length d2, .int .i64 e'.ts, .int .i64 e'.seq, .int .i64 e'.kind, .slice D2 e'.val.length q2], bytO 5 (A1, c1, e'.row ++ mkL 70), bytO 5 (B1, d1, e'.qual ++ mkL 70), bytO 5 (D1, q1, e'.val ++ mkL 70), bytO 5 (A2, c2, e'.row ++ mkL 70), bytO 5 (B2, d2, e'.qual ++ mkL 70), bytO 5 (D2, q2, e'.val ++ mkL 70), boxO gi [.slice A1 e'.row.length c1, .int .i64 e'.fam, .slice B1 e'.qual.length d1, .int .i64 e'.ts, .int .i64 e'.seq, .int .i64 e'.kind, .slice D1 e'.val.length q1]] _) := HS
            go_wp2_with fail
            go_meet
            exact ⟨A1, c1, B1, d1, D1, q1, A2, c2, B2, d2, D2, q2, gi, gd, rfl, rfl, Lib.hid (HS9.out.perm (by (refine perm_of_cnt fun a => ?_; (simp only [cntO_app, cntO_cons, cntO_nil]) <;> omega)))⟩
          · refine wpo_alloc rfl [.slice none 0 0, .int .i64 0, .slice none 0 0, .int .i64 0, .int .i64 0, .int .i64 0, .slice none 0 0] (.inl (by kernel_rfl)) HS.out ?_
            intro gi ugi hz _
            replace HS := Lib.hid hz
            clear hz
            refine ⟨fun _ => HS.out.up, ?_⟩
            simp only [Act.put, List.setIfInBounds_toArray, List.set_cons_zero, List.set_cons_succ]
            refine lt_op 9 rfl (by kernel_rfl) rfl ?_
            refine wp_callL rfl ⟨_, Tryd.func32, by decide, by kernel_rfl⟩ [entV Ar e.row.length ec B e.qual.length d D e.val.length q e] rfl ?_
            refine (entry5_any e Ar _ ec B _ d D _ q _ (HEN.out _ (below_up HW5.out HS.out.up))).mono ?_
            rw [HE'.out]
            rintro r z2 ⟨A2, B2, D2, c2, d2, q2, rfl, ho⟩
            replace HS := Lib.hid (HS.out.app ho)
            clear ho
            refine ⟨_, rfl, ?_⟩
            refine ⟨fun _ => HS.out.up, ?_⟩
            simp only [Act.put, List.setIfInBounds_toArray, List.set_cons_zero, List.set_cons_succ]
            refine lt_end 12 rfl (by kernel_rfl) rfl (by kernel_rfl) ?_
            refine wpo_put rfl HS.out 4 rfl rfl [.slice A1 e'.row.length c1, .int .i64 e'.fam, .slice B1 e'.qual.length d1, .int .i64 e'.ts, .int .i64 e'.seq, .int .i64 e'.kind, .slice D1 e'.val.length q1] rfl rfl (by kernel_rfl) (by simp [Value.oneCell']) ?_
            intro v1 hz _
            replace HS := Lib.hid hz
            clear hz
            simp only [Act.put]
            refine lt_end 13 rfl (by kernel_rfl) rfl (by kernel_rfl) ?_
            refine wpo_put rfl HS.out 0 rfl rfl [.slice A2 e'.row.length c2, .int .i64 e'.fam, .slice B2 e'.qual.length d2, .int .i64 e'.ts, .int .i64 e'.seq, .int .i64 e'.kind, .slice D2 e'.val.length q2] rfl rfl (by kernel_rfl) (by simp [Value.oneCell']) ?_
            intro v2 hz _
            replace HS := Lib.hid hz
            clear hz
            simp only [Act.put]
            refine lt_done (by kernel_rfl) ?_
            have HS9 : Hid (OW w5 [boxO gd [.slice A2 e'.row.length c2, .int .i64 e'.fam, .slice B2 e'.qual.length d2, .int .i64 e'.ts, .int .i64 e'.seq, .int .i64 e'.kind, .slice D2 e'.val.length q2], bytO 5 (A1, c1, e'.row ++ mkL 70), bytO 5 (B1, d1, e'.qual ++ mkL 70), bytO 5 (D1, q1, e'.val ++ mkL 70), boxO gi [.slice A1 e'.row.length c1, .int .i64 e'.fam, .slice B1 e'.qual.length d1, .int .i64 e'.ts, .int .i64 e'.seq, .int .i64 e'.kind, .slice D1 e'.val.length q1], bytO 5 (A2, c2, e'.row ++ mkL 70), bytO 5 (B2, d2, e'.qual ++ mkL 70), bytO 5 (D2, q2, e'.val ++ mkL 70)] _) := HS
            go_wp2_with fail
            go_meet
            exact ⟨A1, c1, B1, d1, D1, q1, A2, c2, B2, d2, D2, q2, gi, gd, rfl, rfl, Lib.hid (HS9.out.perm (by (refine perm_of_cnt fun a => ?_; (simp only [cntO_app, cntO_cons, cntO_nil]) <;> omega)))⟩
        · refine wpo_alloc rfl [.slice none 0 0, .int .i64 0, .slice none 0 0, .int .i64 0, .int .i64 0, .int .i64 0, .slice none 0 0] (.inl (by kernel_rfl)) HS.out ?_
          intro gi ugi hz _
          replace HS := Lib.hid hz
          clear hz
          refine ⟨fun _ => HS.out.up, ?_⟩
          simp only [Act.put, List.setIfInBounds_toArray, List.set_cons_zero, List.set_cons_succ]
          refine lt_op 4 rfl (by kernel_rfl) rfl ?_
          refine wp_callL rfl ⟨_, Tryd.func32, by decide, by kernel_rfl⟩ [entV Ar e.row.length ec B e.qual.length d D e.val.length q e] rfl ?_
          refine (entry5_any e Ar _ ec B _ d D _ q _ (HEN.out _ (below_up HW5.out HS.out.up))).mono ?_
          rw [HE'.out]
          rintro r z1 ⟨A1, B1, D1, c1, d1, q1, rfl, ho⟩
          replace HS := Lib.hid (HS.out.app ho)
          clear ho
          refine ⟨_, rfl, ?_⟩
          refine ⟨fun _ => HS.out.up, ?_⟩
          simp only [Act.put, List.setIfInBounds_toArray, List.set_cons_zero, List.set_cons_succ]
          refine lt_op 9 rfl (by kernel_rfl) rfl ?_
          refine wp_callL rfl ⟨_, Tryd.func32, by decide, by kernel_rfl⟩ [entV Ar e.row.length ec B e.qual.length d D e.val.length q e] rfl ?_
          refine (entry5_any e Ar _ ec B _ d D _ q _ (HEN.out _ (below_up HW5.out HS.out.up))).mono ?_
          rw [HE'.out]
          rintro r z2 ⟨A2, B2, D2, c2, d2, q2, rfl, ho⟩
          replace HS := Lib.hid (HS.out.app ho)
          clear ho
          refine ⟨_, rfl, ?_⟩
          refine ⟨fun _ => HS.out.up, ?_⟩
          simp only [Act.put, List.setIfInBounds_toArray, List.set_cons_zero, List.set_cons_succ]
          refine lt_end 12 rfl (by kernel_rfl) rfl (by kernel_rfl) ?_
          refine wpo_put rfl HS.out 1 rfl rfl [.slice A1 e'.row.length c1, .int .i64 e'.fam, .slice B1 e'.qual.length d1, .int .i64 e'.ts, .int .i64 e'.seq, .int .i64 e'.kind, .slice D1 e'.val.length q1] rfl rfl (by kernel_rfl) (by simp [Value.oneCell']) ?_
          intro v1 hz _
          replace HS := Lib.hid hz
          clear hz
          simp only [Act.put]
          refine lt_end 13 rfl (by kernel_rfl) rfl (by kernel_rfl) ?_
          refine wpo_put rfl HS.out 0 rfl rfl [.slice A2 e'.row.length c2, .int .i64 e'.fam, .slice B2 e'.qual.length d2, .int .i64 e'.ts, .int .i64 e'.seq, .int .i64 e'.kind, .slice D2 e'.val.length q2] rfl rfl (by kernel_rfl) (by simp [Value.oneCell']) ?_
          intro v2 hz _
          replace HS := Lib.hid hz
          clear hz
          simp only [Act.put]
          refine lt_done (by kernel_rfl) ?_
          have HS9 : Hid (OW w5 [boxO gd [.slice A2 e'.row.length c2, .int .i64 e'.fam, .slice B2 e'.qual.length d2, .int .i64 e'.ts, .int .i64 e'.seq, .int .i64 e'.kind, .slice D2 e'.val.length q2], boxO gi [.slice A1 e'.row.length c1, .int .i64 e'.fam, .slice B1 e'.qual.length d1, .int .i64 e'.ts, .int .i64 e'.seq, .int .i64 e'.kind, .slice D1 e'.val.length q1], bytO 5 (A1, c1, e'.row ++ mkL 70), bytO 5 (B1, d1, e'.qual ++ mkL 70), bytO 5 (D1, q1, e'.val ++ mkL 70), bytO 5 (A2, c2, e'.row ++ mkL 70), bytO 5 (B2, d2, e'.qual ++ mkL 70), bytO 5 (D2, q2, e'.val ++ mkL 70)] _) := HS
          go_wp2_with fail
          go_meet
          exact ⟨A1, c1, B1, d1, D1, q1, A2, c2, B2, d2, D2, q2, gi, gd, rfl, rfl, Lib.hid (HS9.out.perm (by (refine perm_of_cnt fun a => ?_; (simp only [cntO_app, cntO_cons, cntO_nil]) <;> omega)))⟩
    obtain ⟨A1, c1, B1, d1, D1, q1, A2, c2, B2, d2, D2, q2, gi, gd, rfl, rfl, HNW⟩ := hcut
    obtain ⟨osF, osH, osO, ks, hF, hB, hO, hl1, hl2, hX⟩ := HDU.out
    have HF := Lib.hid hF
    have HB := Lib.hid hB
    have HO := Lib.hid hO
    have HL1 : Hid (h.Lst i (ks ++ entR (⟨A2, c2, B2, d2, D2, q2, e'⟩ : ER))) := Lib.hid (hl1.sub (Nat.le_refl _) fun x hx => List.mem_append_left _ hx)
    have HL2 : Hid (o.Lst (i + 1) (ks ++ entR (⟨A2, c2, B2, d2, D2, q2, e'⟩ : ER))) := Lib.hid (hl2.sub (Nat.le_succ _) fun x hx => List.mem_append_left _ hx)
    have HY1 : Hid (OW w ((bytO 5 (A1, c1, e'.row ++ mkL 70) :: bytO 5 (B1, d1, e'.qual ++ mkL 70) :: bytO 5 (D1, q1, e'.val ++ mkL 70) :: boxO gi [.slice A1 e'.row.length c1, .int .i64 e'.fam, .slice B1 e'.qual.length d1, .int .i64 e'.ts, .int .i64 e'.seq, .int .i64 e'.kind, .slice D1 e'.val.length q1] :: boxO gd [.slice A2 e'.row.length c2, .int .i64 e'.fam, .slice B2 e'.qual.length d2, .int .i64 e'.ts, .int .i64 e'.seq, .int .i64 e'.kind, .slice D2 e'.val.length q2] :: (osF ++ (osH ++ osO))) ++ (h.box :: h.row :: (o.box :: o.row :: rowO 70 1 (.slice (some ⟨gh, 0, none⟩) 2 2) 2 [.pointer (some ⟨hg0, 0, none⟩), .pointer (some ⟨hg1, 0, none⟩)] :: (ks ++ entR (⟨A2, c2, B2, d2, D2, q2, e'⟩ : ER))))) wc) := Lib.hid (by
      have h9 := hX.app HNW.out
      refine h9.perm ?_
      unfold DuoL restD entR entO
      (refine perm_of_cnt fun a => ?_; (simp only [cntO_app, cntO_cons, cntO_nil]) <;> omega))
    clear hF hB hO hl1 hl2 hX HDU HNW
    have HM1 : Hid (boxO h.hg [.pointer (some ⟨h.b, 0, none⟩), .int .i64 (h.R : Int), .slice h.A h.k h.c] ∈ (bytO 5 (A1, c1, e'.row ++ mkL 70) :: bytO 5 (B1, d1, e'.qual ++ mkL 70) :: bytO 5 (D1, q1, e'.val ++ mkL 70) :: boxO gi [.slice A1 e'.row.length c1, .int .i64 e'.fam, .slice B1 e'.qual.length d1, .int .i64 e'.ts, .int .i64 e'.seq, .int .i64 e'.kind, .slice D1 e'.val.length q1] :: boxO gd [.slice A2 e'.row.length c2, .int .i64 e'.fam, .slice B2 e'.qual.length d2, .int .i64 e'.ts, .int .i64 e'.seq, .int .i64 e'.kind, .slice D2 e'.val.length q2] :: (osF ++ (osH ++ osO))) ++ (h.box :: h.row :: (o.box :: o.row :: rowO 70 1 (.slice (some ⟨gh, 0, none⟩) 2 2) 2 [.pointer (some ⟨hg0, 0, none⟩), .pointer (some ⟨hg1, 0, none⟩)] :: (ks ++ entR (⟨A2, c2, B2, d2, D2, q2, e'⟩ : ER))))) := Lib.hid (List.mem_append_right _ (.head _))
    obtain ⟨ac, hac⟩ : ∃ z, z = addC h.R h.L e' := ⟨_, rfl⟩
    have HAC := Lib.hid hac.symm
    clear hac
    have hi80 : i ≤ 1000 := by omega
    go_upto_region 20 with fail
    refine lt_start [9] (by kernel_rfl) ?_
    intro xd hd
    refine ⟨fun z => OW w ((bytO 5 (A1, c1, e'.row ++ mkL 70) :: bytO 5 (B1, d1, e'.qual ++ mkL 70) :: bytO 5 (D1, q1, e'.val ++ mkL 70) :: boxO gi [.slice A1 e'.row.length c1, .int .i64 e'.fam, .slice B1 e'.qual.length d1, .int .i64 e'.ts, .int .i64 e'.seq, .int .i64 e'.kind, .slice D1 e'.val.length q1] :: boxO gd [.slice A2 e'.row.length c2, .int .i64 e'.fam, .slice B2 e'.qual.length d2, .int .i64 e'.ts, .int .i64 e'.seq, .int .i64 e'.kind, .slice D2 e'.val.length q2] :: (osF ++ (osH ++ osO))) ++ (h.box :: h.row :: (o.box :: o.row :: rowO 70 1 (.slice (some ⟨gh, 0, none⟩) 2 2) 2 [.pointer (some ⟨hg0, 0, none⟩), .pointer (some ⟨hg1, 0, none⟩)] :: (ks ++ entR (⟨A2, c2, B2, d2, D2, q2, e'⟩ : ER))))) z, ?_⟩
    have HS := Lib.hid (HY1.out.later hd)
    refine lt_pure 0 rfl (by kernel_rfl) (by kernel_rfl) (by kernel_rfl) (by kernel_rfl) (fun _ _ _ h => h) (v := ?_) (yi_run rfl (fun w => ?_)) (fun _ => HS.out) ?_
    rotate_left
    · first | (go_simp; done) | (go_simp; with_reducible rfl)
    simp only [Act.put, List.setIfInBounds_toArray, List.set_cons_zero, List.set_cons_succ]
    refine lt_pure 1 rfl (by kernel_rfl) (by kernel_rfl) (by kernel_rfl) (by kernel_rfl) (fun _ _ _ h => h) (v := ?_) (yi_run rfl (fun w => ?_)) (fun _ => HS.out) ?_
    rotate_left
    · first | (go_simp; done) | (go_simp; with_reducible rfl)
    simp only [Act.put, List.setIfInBounds_toArray, List.set_cons_zero, List.set_cons_succ]
    refine lt_pure 2 rfl (by kernel_rfl) (by kernel_rfl) (by kernel_rfl) (by kernel_rfl) (fun _ _ _ h => h) (v := ?_) (yi_run rfl (fun w => ?_)) (fun _ => HS.out) ?_
    rotate_left
    · first | (go_simp; done) | (go_simp; with_reducible rfl)
    simp only [Act.put, List.setIfInBounds_toArray, List.set_cons_zero, List.set_cons_succ]
    refine lt_take 3 [9, 10, 11, 12, 13, 14] rfl (by kernel_rfl) (by kernel_rfl) (by kernel_rfl) (by kernel_rfl) (by kernel_rfl) (fun _ _ _ h => h) (yi_cell rfl rfl rfl (fun w hS => OW.cellm hS HM1.out (j := 1) rfl) (fun w => Tryd.isAgg3 w)) HS.out ?_
    simp only [Act.put, List.setIfInBounds_toArray, List.set_cons_zero, List.set_cons_succ]
    refine lt_pure 4 rfl (by kernel_rfl) (by kernel_rfl) (by kernel_rfl) (by kernel_rfl) (fun _ _ _ h => h) (v := ?_) (yi_run rfl (fun w => ?_)) (fun _ => HS.out) ?_
    rotate_left
    · first | (go_simp; done) | (go_simp; with_reducible rfl)
    simp only [Act.put, List.setIfInBounds_toArray, List.set_cons_zero, List.set_cons_succ]
    refine lt_pure 5 rfl (by kernel_rfl) (by kernel_rfl) (by kernel_rfl) (by kernel_rfl) (fun _ _ _ h => h) (v := ?_) (yi_run rfl (fun w => ?_)) (fun _ => HS.out) ?_
    rotate_left
    · first | (go_simp; done) | (go_simp; with_reducible rfl)
    simp only [Act.put, List.setIfInBounds_toArray, List.set_cons_zero, List.set_cons_succ]
    refine lt_pure 6 rfl (by kernel_rfl) (by kernel_rfl) (by kernel_rfl) (by kernel_rfl) (fun _ _ _ h => h) (v := ?_) (yi_run rfl (fun w => ?_)) (fun _ => HS.out) ?_
    rotate_left
    · first | (go_simp; done) | (go_simp; with_reducible rfl)
    simp only [Act.put, List.setIfInBounds_toArray, List.set_cons_zero, List.set_cons_succ]
    refine lt_take 7 [9, 10, 11, 12, 13, 14] rfl (by kernel_rfl) (by kernel_rfl) (by kernel_rfl) (by kernel_rfl) (by kernel_rfl) (fun _ _ _ h => h) (yi_cell rfl rfl rfl (fun w hS => OW.cellm hS HM1.out (j := 2) rfl) (fun w => Tryd.isAgg22 w)) HS.out ?_
    simp only [Act.put, List.setIfInBounds_toArray, List.set_cons_zero, List.set_cons_succ]
    refine lt_take 8 [9, 10, 11, 12, 13, 14] rfl (by kernel_rfl) (by kernel_rfl) (by kernel_rfl) (by kernel_rfl) (by kernel_rfl) (fun _ _ _ h => h) (yi_row rfl rfl rfl (fun w hS => OW.range hS (i := 4) rfl) ent_rowM) HS.out ?_
    simp only [Act.put, List.setIfInBounds_toArray, List.set_cons_zero, List.set_cons_succ]
    refine lt_call 9 rfl (by kernel_rfl) rfl rfl ⟨_, Tryd.func33, by decide, by kernel_rfl⟩ [.int .i64 (h.R : Int), .slice h.A h.k h.c, entV A2 e'.row.length c2 B2 e'.qual.length d2 D2 e'.val.length q2 e'] rfl ?_
    refine (radd_half h (⟨A2, c2, B2, d2, D2, q2, e'⟩ : ER) HS.out HL1.out (fun u hu => .tail _ (.tail _ (.tail _ hu))) (fun u hu => List.mem_append_right _ hu) hR hi80).mono ?_
    rw [HAC.out]
    rintro r z7 ⟨h', e1, e2, e3, e4, hl5, rfl, hz⟩
    have HY2 : Hid (OW w ((bytO 5 (A1, c1, e'.row ++ mkL 70) :: bytO 5 (B1, d1, e'.qual ++ mkL 70) :: bytO 5 (D1, q1, e'.val ++ mkL 70) :: boxO gi [.slice A1 e'.row.length c1, .int .i64 e'.fam, .slice B1 e'.qual.length d1, .int .i64 e'.ts, .int .i64 e'.seq, .int .i64 e'.kind, .slice D1 e'.val.length q1] :: boxO gd [.slice A2 e'.row.length c2, .int .i64 e'.fam, .slice B2 e'.qual.length d2, .int .i64 e'.ts, .int .i64 e'.seq, .int .i64 e'.kind, .slice D2 e'.val.length q2] :: (osF ++ (osH ++ osO))) ++ (h.box :: h'.row :: (o.box :: o.row :: rowO 70 1 (.slice (some ⟨gh, 0, none⟩) 2 2) 2 [.pointer (some ⟨hg0, 0, none⟩), .pointer (some ⟨hg1, 0, none⟩)] :: (ks ++ entR (⟨A2, c2, B2, d2, D2, q2, e'⟩ : ER))))) z7) := Lib.hid hz
    have HP := Lib.hid (show h'.R = h.R ∧ h'.b = h.b ∧ h'.hg = h.hg ∧ h'.L = addL h.R h.L e' from ⟨e1, e2, e3, e4⟩)
    have HL5 := Lib.hid hl5
    clear e1 e2 e3 e4 hl5 hz
    refine ⟨_, rfl, (fun e => nomatch e), ?_⟩
    simp only [Act.put, List.setIfInBounds_toArray, List.set_cons_zero, List.set_cons_succ]
    refine lt_pureF 10 rfl (by kernel_rfl) (by kernel_rfl) (by kernel_rfl) (by kernel_rfl) (by kernel_rfl) (fun _ _ _ h => h) (v := ?_) (yi_run rfl (fun w => ?_)) ?_
    rotate_left
    · first | (go_simp; done) | (go_simp; with_reducible rfl)
    simp only [Act.put, List.setIfInBounds_toArray, List.set_cons_zero, List.set_cons_succ]
    refine lt_pureF 11 rfl (by kernel_rfl) (by kernel_rfl) (by kernel_rfl) (by kernel_rfl) (by kernel_rfl) (fun _ _ _ h => h) (v := ?_) (yi_run rfl (fun w => ?_)) ?_
    rotate_left
    · first | (go_simp; done) | (go_simp; with_reducible rfl)
    simp only [Act.put, List.setIfInBounds_toArray, List.set_cons_zero, List.set_cons_succ]
    refine lt_pureF 12 rfl (by kernel_rfl) (by kernel_rfl) (by kernel_rfl) (by kernel_rfl) (by kernel_rfl) (fun _ _ _ h => h) (v := ?_) (yi_run rfl (fun w => ?_)) ?_
    rotate_left
    · first | (go_simp; done) | (go_simp; with_reducible rfl)
    simp only [Act.put, List.setIfInBounds_toArray, List.set_cons_zero, List.set_cons_succ]
    refine lt_pureF 13 rfl (by kernel_rfl) (by kernel_rfl) (by kernel_rfl) (by kernel_rfl) (by kernel_rfl) (fun _ _ _ h => h) (v := ?_) (yi_run rfl (fun w => ?_)) ?_
    rotate_left
    · first | (go_simp; done) | (go_simp; with_reducible rfl)
    simp only [Act.put, List.setIfInBounds_toArray, List.set_cons_zero, List.set_cons_succ]
    refine lt_pureF 14 rfl (by kernel_rfl) (by kernel_rfl) (by kernel_rfl) (by kernel_rfl) (by kernel_rfl) (fun _ _ _ h => h) (v := ?_) (yi_run rfl (fun w => ?_)) ?_
    rotate_left
    · first | (go_simp; done) | (go_simp; with_reducible rfl)
    simp only [Act.put, List.setIfInBounds_toArray, List.set_cons_zero, List.set_cons_succ]
    refine lt_done (by kernel_rfl) ?_
    clear HS HY1
    have HMI : Hid (∀ u, u ∈ entR (⟨A1, c1, B1, d1, D1, q1, e'⟩ : ER) → u ∈ (bytO 5 (A1, c1, e'.row ++ mkL 70) :: bytO 5 (B1, d1, e'.qual ++ mkL 70) :: bytO 5 (D1, q1, e'.val ++ mkL 70) :: boxO gi [.slice A1 e'.row.length c1, .int .i64 e'.fam, .slice B1 e'.qual.length d1, .int .i64 e'.ts, .int .i64 e'.seq, .int .i64 e'.kind, .slice D1 e'.val.length q1] :: boxO gd [.slice A2 e'.row.length c2, .int .i64 e'.fam, .slice B2 e'.qual.length d2, .int .i64 e'.ts, .int .i64 e'.seq, .int .i64 e'.kind, .slice D2 e'.val.length q2] :: (osF ++ osO)) ++ (h.box :: h'.row :: (o.box :: o.row :: rowO 70 1 (.slice (some ⟨gh, 0, none⟩) 2 2) 2 [.pointer (some ⟨hg0, 0, none⟩), .pointer (some ⟨hg1, 0, none⟩)] :: (ks ++ entR (⟨A2, c2, B2, d2, D2, q2, e'⟩ : ER))))) := Lib.hid fun u hu => by
      refine List.mem_append_left _ ?_
      unfold entR entO at hu
      simp only [List.mem_cons, List.not_mem_nil, or_false] at hu
      rcases hu with rfl | rfl | rfl
      · exact .head _
      · exact .tail _ (.head _)
      · exact .tail _ (.tail _ (.head _))
    have HM2 : Hid (boxO h.hg [.pointer (some ⟨h.b, 0, none⟩), .int .i64 (h.R : Int), .slice h.A h.k h.c] ∈ (bytO 5 (A1, c1, e'.row ++ mkL 70) :: bytO 5 (B1, d1, e'.qual ++ mkL 70) :: bytO 5 (D1, q1, e'.val ++ mkL 70) :: boxO gi [.slice A1 e'.row.length c1, .int .i64 e'.fam, .slice B1 e'.qual.length d1, .int .i64 e'.ts, .int .i64 e'.seq, .int .i64 e'.kind, .slice D1 e'.val.length q1] :: boxO gd [.slice A2 e'.row.length c2, .int .i64 e'.fam, .slice B2 e'.qual.length d2, .int .i64 e'.ts, .int .i64 e'.seq, .int .i64 e'.kind, .slice D2 e'.val.length q2] :: (osF ++ (osH ++ osO))) ++ (h.box :: h'.row :: (o.box :: o.row :: rowO 70 1 (.slice (some ⟨gh, 0, none⟩) 2 2) 2 [.pointer (some ⟨hg0, 0, none⟩), .pointer (some ⟨hg1, 0, none⟩)] :: (ks ++ entR (⟨A2, c2, B2, d2, D2, q2, e'⟩ : ER))))) := Lib.hid (List.mem_append_right _ (.head _))
    go_upto_region 21 with fail
    refine lt_start [5] (by kernel_rfl) ?_
    intro xd hd
    refine ⟨fun z => OW w ((bytO 5 (A1, c1, e'.row ++ mkL 70) :: bytO 5 (B1, d1, e'.qual ++ mkL 70) :: bytO 5 (D1, q1, e'.val ++ mkL 70) :: boxO gi [.slice A1 e'.row.length c1, .int .i64 e'.fam, .slice B1 e'.qual.length d1, .int .i64 e'.ts, .int .i64 e'.seq, .int .i64 e'.kind, .slice D1 e'.val.length q1] :: boxO gd [.slice A2 e'.row.length c2, .int .i64 e'.fam, .slice B2 e'.qual.length d2, .int .i64 e'.ts, .int .i64 e'.seq, .int .i64 e'.kind, .slice D2 e'.val.length q2] :: (osF ++ (osH ++ osO))) ++ (h.box :: h'.row :: (o.box :: o.row :: rowO 70 1 (.slice (some ⟨gh, 0, none⟩) 2 2) 2 [.pointer (some ⟨hg0, 0, none⟩), .pointer (some ⟨hg1, 0, none⟩)] :: (ks ++ entR (⟨A2, c2, B2, d2, D2, q2, e'⟩ : ER))))) z, ?_⟩
    have HS := Lib.hid (HY2.out.later hd)
    refine lt_pure 0 rfl (by kernel_rfl) (by kernel_rfl) (by kernel_rfl) (by kernel_rfl) (fun _ _ _ h => h) (v := ?_) (yi_run rfl (fun w => ?_)) (fun _ => HS.out) ?_
    rotate_left
    · first | (go_simp; done) | (go_simp; with_reducible rfl)
    simp only [Act.put, List.setIfInBounds_toArray, List.set_cons_zero, List.set_cons_succ]
    refine lt_pure 1 rfl (by kernel_rfl) (by kernel_rfl) (by kernel_rfl) (by kernel_rfl) (fun _ _ _ h => h) (v := ?_) (yi_run rfl (fun w => ?_)) (fun _ => HS.out) ?_
    rotate_left
    · first | (go_simp; done) | (go_simp; with_reducible rfl)
    simp only [Act.put, List.setIfInBounds_toArray, List.set_cons_zero, List.set_cons_succ]
    refine lt_pure 2 rfl (by kernel_rfl) (by kernel_rfl) (by kernel_rfl) (by kernel_rfl) (fun _ _ _ h => h) (v := ?_) (yi_run rfl (fun w => ?_)) (fun _ => HS.out) ?_
    rotate_left
    · first | (go_simp; done) | (go_simp; with_reducible rfl)
    simp only [Act.put, List.setIfInBounds_toArray, List.set_cons_zero, List.set_cons_succ]
    refine lt_take 3 [5, 6] rfl (by kernel_rfl) (by kernel_rfl) (by kernel_rfl) (by kernel_rfl) (by kernel_rfl) (fun _ _ _ h => h) (yi_cell rfl rfl rfl (fun w hS => OW.cellm hS HM2.out (j := 0) rfl) (fun w => Tryd.isAgg57 w)) HS.out ?_
    simp only [Act.put, List.setIfInBounds_toArray, List.set_cons_zero, List.set_cons_succ]
    refine lt_take 4 [5, 6] rfl (by kernel_rfl) (by kernel_rfl) (by kernel_rfl) (by kernel_rfl) (by kernel_rfl) (fun _ _ _ h => h) (yi_row rfl rfl rfl (fun w hS => OW.range hS (i := 3) rfl) ent_rowM) HS.out ?_
    simp only [Act.put, List.setIfInBounds_toArray, List.set_cons_zero, List.set_cons_succ]
    refine lt_call 5 rfl (by kernel_rfl) rfl rfl ⟨_, Tryd.func23, by decide, by kernel_rfl⟩ [.pointer (some ⟨h.b, 0, none⟩), entV A1 e'.row.length c1 B1 e'.qual.length d1 D1 e'.val.length q1 e'] rfl ?_
    refine (add_any (rest := (bytO 5 (A1, c1, e'.row ++ mkL 70) :: bytO 5 (B1, d1, e'.qual ++ mkL 70) :: bytO 5 (D1, q1, e'.val ++ mkL 70) :: boxO gi [.slice A1 e'.row.length c1, .int .i64 e'.fam, .slice B1 e'.qual.length d1, .int .i64 e'.ts, .int .i64 e'.seq, .int .i64 e'.kind, .slice D1 e'.val.length q1] :: boxO gd [.slice A2 e'.row.length c2, .int .i64 e'.fam, .slice B2 e'.qual.length d2, .int .i64 e'.ts, .int .i64 e'.seq, .int .i64 e'.kind, .slice D2 e'.val.length q2] :: (osF ++ osO)) ++ (h.box :: h'.row :: (o.box :: o.row :: rowO 70 1 (.slice (some ⟨gh, 0, none⟩) 2 2) 2 [.pointer (some ⟨hg0, 0, none⟩), .pointer (some ⟨hg1, 0, none⟩)] :: (ks ++ entR (⟨A2, c2, B2, d2, D2, q2, e'⟩ : ER))))) HB.out (HS.out.perm (by (refine perm_of_cnt fun a => ?_; (simp only [cntO_app, cntO_cons, cntO_nil]) <;> omega))) e' A1 _ c1 B1 _ d1 D1 _ q1 (fun us z hz => entO_en hz (fun u hu => List.mem_append_right _ (HMI.out u hu)))).mono ?_
    rintro r z8 ⟨hre, os5, hb5, ho5⟩
    rw [HAC.out] at hre
    subst hre
    have HB5 : Hid (Bld h'.R h'.L h'.b os5) := Lib.hid (by rw [HP.out.1, HP.out.2.1, HP.out.2.2.2]; exact hb5)
    have HY3 : Hid (OW w ((bytO 5 (A1, c1, e'.row ++ mkL 70) :: bytO 5 (B1, d1, e'.qual ++ mkL 70) :: bytO 5 (D1, q1, e'.val ++ mkL 70) :: boxO gi [.slice A1 e'.row.length c1, .int .i64 e'.fam, .slice B1 e'.qual.length d1, .int .i64 e'.ts, .int .i64 e'.seq, .int .i64 e'.kind, .slice D1 e'.val.length q1] :: boxO gd [.slice A2 e'.row.length c2, .int .i64 e'.fam, .slice B2 e'.qual.length d2, .int .i64 e'.ts, .int .i64 e'.seq, .int .i64 e'.kind, .slice D2 e'.val.length q2] :: (osF ++ (os5 ++ osO))) ++ (h.box :: h'.row :: (o.box :: o.row :: rowO 70 1 (.slice (some ⟨gh, 0, none⟩) 2 2) 2 [.pointer (some ⟨hg0, 0, none⟩), .pointer (some ⟨hg1, 0, none⟩)] :: (ks ++ entR (⟨A2, c2, B2, d2, D2, q2, e'⟩ : ER))))) z8) := Lib.hid (ho5.perm (by (refine perm_of_cnt fun a => ?_; (simp only [cntO_app, cntO_cons, cntO_nil]) <;> omega)))
    clear hb5 ho5
    refine ⟨_, rfl, (fun e => nomatch e), ?_⟩
    simp only [Act.put, List.setIfInBounds_toArray, List.set_cons_zero, List.set_cons_succ]
    refine lt_pureF 6 rfl (by kernel_rfl) (by kernel_rfl) (by kernel_rfl) (by kernel_rfl) (by kernel_rfl) (fun _ _ _ h => h) (v := ?_) (yi_run rfl (fun w => ?_)) ?_
    rotate_left
    · first | (go_simp; done) | (go_simp; with_reducible rfl)
    simp only [Act.put, List.setIfInBounds_toArray, List.set_cons_zero, List.set_cons_succ]
    refine lt_done (by kernel_rfl) ?_
    clear HS HY2
    have HENI : Hid (∀ z, OW w ((bytO 5 (A1, c1, e'.row ++ mkL 70) :: bytO 5 (B1, d1, e'.qual ++ mkL 70) :: bytO 5 (D1, q1, e'.val ++ mkL 70) :: boxO gi [.slice A1 e'.row.length c1, .int .i64 e'.fam, .slice B1 e'.qual.length d1, .int .i64 e'.ts, .int .i64 e'.seq, .int .i64 e'.kind, .slice D1 e'.val.length q1] :: boxO gd [.slice A2 e'.row.length c2, .int .i64 e'.fam, .slice B2 e'.qual.length d2, .int .i64 e'.ts, .int .i64 e'.seq, .int .i64 e'.kind, .slice D2 e'.val.length q2] :: (osF ++ (os5 ++ osO))) ++ (h.box :: h'.row :: (o.box :: o.row :: rowO 70 1 (.slice (some ⟨gh, 0, none⟩) 2 2) 2 [.pointer (some ⟨hg0, 0, none⟩), .pointer (some ⟨hg1, 0, none⟩)] :: (ks ++ entR (⟨A2, c2, B2, d2, D2, q2, e'⟩ : ER))))) z → EnM z A1 e'.row.length c1 B1 e'.qual.length d1 D1 e'.val.length q1 e') := Lib.hid fun z hz => entO_enM hz (fun u hu => by
      refine List.mem_append_left _ ?_
      unfold entO at hu
      simp only [List.mem_cons, List.not_mem_nil, or_false] at hu
      rcases hu with rfl | rfl | rfl
      · exact .head _
      · exact .tail _ (.head _)
      · exact .tail _ (.tail _ (.head _))) HCL.out.1 HCL.out.2.1 HCL.out.2.2
    have HEND : Hid (∀ z, OW w ((bytO 5 (A1, c1, e'.row ++ mkL 70) :: bytO 5 (B1, d1, e'.qual ++ mkL 70) :: bytO 5 (D1, q1, e'.val ++ mkL 70) :: boxO gi [.slice A1 e'.row.length c1, .int .i64 e'.fam, .slice B1 e'.qual.length d1, .int .i64 e'.ts, .int .i64 e'.seq, .int .i64 e'.kind, .slice D1 e'.val.length q1] :: boxO gd [.slice A2 e'.row.length c2, .int .i64 e'.fam, .slice B2 e'.qual.length d2, .int .i64 e'.ts, .int .i64 e'.seq, .int .i64 e'.kind, .slice D2 e'.val.length q2] :: (osF ++ (os5 ++ osO))) ++ (h.box :: h'.row :: (o.box :: o.row :: rowO 70 1 (.slice (some ⟨gh, 0, none⟩) 2 2) 2 [.pointer (some ⟨hg0, 0, none⟩), .pointer (some ⟨hg1, 0, none⟩)] :: (ks ++ entR (⟨A2, c2, B2, d2, D2, q2, e'⟩ : ER))))) z → En z A2 e'.row.length c2 B2 e'.qual.length d2 D2 e'.val.length q2 e') := Lib.hid fun z hz => entO_en hz (fun u hu => List.mem_append_right _ (.tail _ (.tail _ (.tail _ (.tail _ (.tail _ (List.mem_append_right _ hu)))))))
    have hne : (ac != ac) = false := bne_self_eq_false ac
    go_upto_region 24 with (first
      | (refine wpList_load_row7 rfl 37 (.tmp 17) rfl rfl (HY3.out.range (i := 3) rfl) ent_rowM ?_)
      | (refine wpList_load_row7 rfl 37 (.tmp 18) rfl rfl (HY3.out.range (i := 4) rfl) ent_rowM ?_)
      | (go_at_call 34; go_must (refine (stands_any e' A1 _ c1 B1 _ d1 D1 _ q1 A2 c2 B2 d2 D2 q2 _ (HENI.out _ HY3.out) (HEND.out _ HY3.out)).mono ?_); rintro r y4 ⟨rfl, hb⟩; have HY4 : Hid (OW w (h.box :: ((bytO 5 (A1, c1, e'.row ++ mkL 70) :: bytO 5 (B1, d1, e'.qual ++ mkL 70) :: bytO 5 (D1, q1, e'.val ++ mkL 70) :: boxO gi [.slice A1 e'.row.length c1, .int .i64 e'.fam, .slice B1 e'.qual.length d1, .int .i64 e'.ts, .int .i64 e'.seq, .int .i64 e'.kind, .slice D1 e'.val.length q1] :: boxO gd [.slice A2 e'.row.length c2, .int .i64 e'.fam, .slice B2 e'.qual.length d2, .int .i64 e'.ts, .int .i64 e'.seq, .int .i64 e'.kind, .slice D2 e'.val.length q2] :: (osF ++ (os5 ++ osO))) ++ (h'.row :: (o.box :: o.row :: rowO 70 1 (.slice (some ⟨gh, 0, none⟩) 2 2) 2 [.pointer (some ⟨hg0, 0, none⟩), .pointer (some ⟨hg1, 0, none⟩)] :: (ks ++ entR (⟨A2, c2, B2, d2, D2, q2, e'⟩ : ER)))))) y4) := Lib.hid ((HY3.out.later hb).perm (by (refine perm_of_cnt fun a => ?_; (simp only [cntO_app, cntO_cons, cntO_nil]) <;> omega))); clear hb HY3))
    have HSA : Hid (SlB (bytO 5 (A1, c1, e'.row ++ mkL 70)) A1 e'.row.length c1) := Lib.hid ((slB_byt _ _ _ _).le (by rw [List.length_append]; omega))
    have HSB : Hid (SlB (bytO 5 (B1, d1, e'.qual ++ mkL 70)) B1 e'.qual.length d1) := Lib.hid ((slB_byt _ _ _ _).le (by rw [List.length_append]; omega))
    have HSD : Hid (SlB (bytO 5 (D1, q1, e'.val ++ mkL 70)) D1 e'.val.length q1) := Lib.hid ((slB_byt _ _ _ _).le (by rw [List.length_append]; omega))
    go_upto_region 26 with (first
      | (refine wl_put1 rfl (.tmp 149) (.tmp 147) rfl HY4.out 0 rfl 2 rfl (by simp) _ rfl (by kernel_rfl) rfl ?_; intro y5 hz _; have HY5 : Hid (OW w (h'.box :: ((bytO 5 (A1, c1, e'.row ++ mkL 70) :: bytO 5 (B1, d1, e'.qual ++ mkL 70) :: bytO 5 (D1, q1, e'.val ++ mkL 70) :: boxO gi [.slice A1 e'.row.length c1, .int .i64 e'.fam, .slice B1 e'.qual.length d1, .int .i64 e'.ts, .int .i64 e'.seq, .int .i64 e'.kind, .slice D1 e'.val.length q1] :: boxO gd [.slice A2 e'.row.length c2, .int .i64 e'.fam, .slice B2 e'.qual.length d2, .int .i64 e'.ts, .int .i64 e'.seq, .int .i64 e'.kind, .slice D2 e'.val.length q2] :: (osF ++ (os5 ++ osO))) ++ (h'.row :: (o.box :: o.row :: rowO 70 1 (.slice (some ⟨gh, 0, none⟩) 2 2) 2 [.pointer (some ⟨hg0, 0, none⟩), .pointer (some ⟨hg1, 0, none⟩)] :: (ks ++ entR (⟨A2, c2, B2, d2, D2, q2, e'⟩ : ER)))))) y5) := Lib.hid (by unfold HalfD.box; rw [HP.out.1, HP.out.2.1, HP.out.2.2.1]; exact hz); clear hz HY4)
      | (refine wpList_load_row7 rfl 37 (.tmp 17) rfl rfl (HY5.out.range (i := 4) rfl) ent_rowM ?_)
      | (go_at_call 35; go_must (refine (fentry_any (rest := boxO gi [.slice A1 e'.row.length c1, .int .i64 e'.fam, .slice B1 e'.qual.length d1, .int .i64 e'.ts, .int .i64 e'.seq, .int .i64 e'.kind, .slice D1 e'.val.length q1] :: boxO gd [.slice A2 e'.row.length c2, .int .i64 e'.fam, .slice B2 e'.qual.length d2, .int .i64 e'.ts, .int .i64 e'.seq, .int .i64 e'.kind, .slice D2 e'.val.length q2] :: (os5 ++ osO) ++ (h'.box :: h'.row :: (o.box :: o.row :: rowO 70 1 (.slice (some ⟨gh, 0, none⟩) 2 2) 2 [.pointer (some ⟨hg0, 0, none⟩), .pointer (some ⟨hg1, 0, none⟩)] :: (ks ++ entR (⟨A2, c2, B2, d2, D2, q2, e'⟩ : ER))))) e' HF.out HSA.out HSB.out HSD.out (HY5.out.perm (by (refine perm_of_cnt fun a => ?_; (simp only [cntO_app, cntO_cons, cntO_nil]) <;> omega))) (by have := HCL.out.1; omega) (by have := HCL.out.2.1; omega) (by have := HCL.out.2.2; omega)).mono ?_); rintro r y6 ⟨rfl, osF', hf, hz⟩; have HDN : Hid (Duo w fg (rowO 70 1 (.slice (some ⟨gh, 0, none⟩) 2 2) 2 [.pointer (some ⟨hg0, 0, none⟩), .pointer (some ⟨hg1, 0, none⟩)]) h' o (i + 1) y6) := Lib.hid ⟨osF', os5, osO, _, hf, HB5.out, HO.out, HL5.out, HL2.out, OW.left (ps := [boxO gi [.slice A1 e'.row.length c1, .int .i64 e'.fam, .slice B1 e'.qual.length d1, .int .i64 e'.ts, .int .i64 e'.seq, .int .i64 e'.kind, .slice D1 e'.val.length q1], boxO gd [.slice A2 e'.row.length c2, .int .i64 e'.fam, .slice B2 e'.qual.length d2, .int .i64 e'.ts, .int .i64 e'.seq, .int .i64 e'.kind, .slice D2 e'.val.length q2]]) (hz.perm (by unfold DuoL restD; (refine perm_of_cnt fun a => ?_; (simp only [cntO_app, cntO_cons, cntO_nil]) <;> omega)))⟩; clear hf hz HY5))
    have HSE : Hid (Sel R R' b0 b1 hg0 hg1 cb h' o) := Lib.hid (by
      rcases HSEL.out with ⟨k0, ⟨k1, k2, k3⟩, k4⟩ | ⟨k0, ⟨k1, k2, k3⟩, k4⟩
      · exact .inl ⟨k0, ⟨HP.out.1.trans k1, HP.out.2.1.trans k2, HP.out.2.2.1.trans k3⟩, k4⟩
      · exact .inr ⟨k0, ⟨HP.out.1.trans k1, HP.out.2.1.trans k2, HP.out.2.2.1.trans k3⟩, k4⟩)
    have hhg : h.hg = h'.hg := HP.out.2.2.1.symm
    have hi8 : i + 1 ≤ 80 := by omega
    have tk5 : True := trivial
    have HK1 : Hid (∀ z, Duo w fg (rowO 70 1 (.slice (some ⟨gh, 0, none⟩) 2 2) 2 [.pointer (some ⟨hg0, 0, none⟩), .pointer (some ⟨hg1, 0, none⟩)]) h' o (i + 1) z → Calls Tryd.prog 36 #[.pointer (some ⟨h.hg, 0, none⟩), .pointer (some ⟨fg, 0, none⟩)] z fun e y => e = .returned (.bool true) ∧ Duo w fg (rowO 70 1 (.slice (some ⟨gh, 0, none⟩) 2 2) 2 [.pointer (some ⟨hg0, 0, none⟩), .pointer (some ⟨hg1, 0, none⟩)]) h' o (i + 1) y) := Lib.hid fun z hz => by rw [hhg]; exact asks_duo hz hi8 HT0.out
    clear hhg
    rcases HSE.out with ⟨rfl, ⟨k1, k2, k3⟩, k4, k5, k6⟩ | ⟨rfl, ⟨k1, k2, k3⟩, k4, k5, k6⟩
    · have HK2 : Hid (∀ z, Duo w fg (rowO 70 1 (.slice (some ⟨gh, 0, none⟩) 2 2) 2 [.pointer (some ⟨hg0, 0, none⟩), .pointer (some ⟨hg1, 0, none⟩)]) h' o (i + 1) z → Calls Tryd.prog 36 #[.pointer (some ⟨hg0, 0, none⟩), .pointer (some ⟨fg, 0, none⟩)] z fun e y => e = .returned (.bool true) ∧ Duo w fg (rowO 70 1 (.slice (some ⟨gh, 0, none⟩) 2 2) 2 [.pointer (some ⟨hg0, 0, none⟩), .pointer (some ⟨hg1, 0, none⟩)]) h' o (i + 1) y) := Lib.hid fun z hz => by have h9 := asks_duo hz hi8 HT0.out; rw [k3] at h9; exact h9
      go_wp2_with (first
        | (go_at_call 36; have _t := tk5; go_must (refine (HK1.out _ HDN.out).mono ?_); rintro r y7 ⟨rfl, hd9⟩; have HDM := Lib.hid hd9; have HC1 := Lib.hid (duo_c0 hd9).1; clear hd9 HDN tk5 _t)
        | (refine wpList_load_cell rfl 70 (.tmp 159) rfl rfl HC1.out (fun w => Tryd.isAgg70 w) ?_)
        | (go_at_call 36; go_must (refine (HK2.out _ HDM.out).mono ?_); rintro r y8 ⟨rfl, hd9⟩; have HDK := Lib.hid hd9; clear hd9 HDM)
        | (go_at_call 37; go_must (refine (whole_duo HDK.out).mono ?_); rintro r y9 ⟨rfl, hd9⟩; have HDL := Lib.hid hd9; clear hd9 HDK))
      go_roundw
      case rel => exact ⟨i + 1, h', o, by omega, by go_num, .inl ⟨rfl, ⟨k1, k2, k3⟩, k4, k5, k6⟩, HDL⟩
      case measure => simp [intOf]; omega
    · have HK2 : Hid (∀ z, Duo w fg (rowO 70 1 (.slice (some ⟨gh, 0, none⟩) 2 2) 2 [.pointer (some ⟨hg0, 0, none⟩), .pointer (some ⟨hg1, 0, none⟩)]) o h' (i + 1) z → Calls Tryd.prog 36 #[.pointer (some ⟨hg0, 0, none⟩), .pointer (some ⟨fg, 0, none⟩)] z fun e y => e = .returned (.bool true) ∧ Duo w fg (rowO 70 1 (.slice (some ⟨gh, 0, none⟩) 2 2) 2 [.pointer (some ⟨hg0, 0, none⟩), .pointer (some ⟨hg1, 0, none⟩)]) o h' (i + 1) y) := Lib.hid fun z hz => by have h9 := asks_duo hz hi8 HT0.out; rw [k6] at h9; exact h9
      go_wp2_with (first
        | (go_at_call 36; have _t := tk5; go_must (refine (HK1.out _ HDN.out).mono ?_); rintro r y7 ⟨rfl, hd9⟩; have HDM := Lib.hid hd9.swap; have HC1 := Lib.hid (duo_c0 hd9).1; clear hd9 HDN tk5 _t)
        | (refine wpList_load_cell rfl 70 (.tmp 159) rfl rfl HC1.out (fun w => Tryd.isAgg70 w) ?_)
        | (go_at_call 36; go_must (refine (HK2.out _ HDM.out).mono ?_); rintro r y8 ⟨rfl, hd9⟩; have HDK := Lib.hid hd9; clear hd9 HDM)
        | (go_at_call 37; go_must (refine (whole_duo HDK.out).mono ?_); rintro r y9 ⟨rfl, hd9⟩; have HDL := Lib.hid hd9; clear hd9 HDK))
      go_roundw
      case rel => exact ⟨i + 1, o, h', by omega, by go_num, .inl ⟨rfl, ⟨k4, k5, k6⟩, k1, k2, k3⟩, HDL⟩
      case measure => simp [intOf]; omega
end Go.Proofs.YtmigjipfomfacaaDoor
namespace Go.Proofs.YtmigjipfomfacaaDoor
open Go.RowKit
theorem beginI_no {R : Int} (h : R < 1 ∨ 16 < R) : beginI R = 1 := if_pos h
theorem beginI_ok {R : Int} (h : ¬ (R < 1 ∨ 16 < R)) : beginI R = 0 := if_neg h
theorem begin_ok2 (R : Int) (w : World) (h : ¬ (R < 1 ∨ 16 < R)) : Calls Tryd.prog 22 #[.int .i64 R] w fun e w' => ∃ g, e = .returned (.tuple #[.pointer (some ⟨g, 0, none⟩), .int .i64 0]) ∧ Below w.heap.size w w' :=
  (begin_any R w).mono fun e w' hp => by
    rcases hp with ⟨hh, _⟩ | ⟨_, _, g, os, rfl, _, hos⟩
    · exact absurd hh h
    · exact ⟨g, rfl, hos.up⟩
set_option maxRecDepth 10000000 in
set_option maxHeartbeats 4000000 in
theorem builds_nn (R R' : Int) (v2 v3 : Value) (w : World) (h1 : R < 1 ∨ 16 < R) (h2 : R' < 1 ∨ 16 < R') (ht : TabAt 0 w) :
    Calls Tryd.prog 7 #[.int .i64 R, .int .i64 R', v2, v3] w fun e z => e = .returned (.bool true) ∧ Below w.heap.size w z := by
  have HTB : Hid (∀ z, Below w.heap.size w z → TabAt 0 z) := Lib.hid fun z hz => ht.later hz
  have HG1 : Hid (beginI R = 1) := Lib.hid (beginI_no h1)
  have HG2 : Hid (beginI R' = 1) := Lib.hid (beginI_no h2)
  have HX := Lib.hid (Below.refl w.heap.size w)
  clear ht
  have tk1 : True := trivial
  have tk2 : True := trivial
  have tk3 : True := trivial
  go_enter Tryd.func7, Tryd.ntmps7
  go_wp2_with (first
    | (go_at_call 11; go_must (refine (told_any _ (HTB.out _ HX.out)).mono ?_); rintro e x3 ⟨rfl, hb⟩; replace HX := Lib.hid (below_up HX.out hb); clear hb)
    | (go_at_call 22; have _t := tk1; go_must (refine (begin_no R _ h1).mono ?_); rintro e x4 ⟨rfl, hb⟩; replace HX := Lib.hid (below_up HX.out hb); clear hb tk1 _t)
    | (go_at_call 22; have _t := tk2; go_must (refine (begin_no R' _ h2).mono ?_); rintro e x5 ⟨rfl, hb⟩; replace HX := Lib.hid (below_up HX.out hb); clear hb tk2 _t)
    | (go_at_call 31; have _t := tk3; go_must (refine (rbegin_any R _).mono ?_); rw [HG1.out]; rintro e y6 ⟨rfl, rfl⟩; clear tk3 _t)
    | (go_at_call 31; go_must (refine (rbegin_any R' _).mono ?_); rw [HG2.out]; rintro e y7 ⟨rfl, rfl⟩))
  go_ret
  exact ⟨rfl, HX.out⟩
set_option maxRecDepth 10000000 in
set_option maxHeartbeats 4000000 in
theorem builds_no (R R' : Int) (v2 v3 : Value) (w : World) (h1 : R < 1 ∨ 16 < R) (h2 : ¬ (R' < 1 ∨ 16 < R')) (ht : TabAt 0 w) :
    Calls Tryd.prog 7 #[.int .i64 R, .int .i64 R', v2, v3] w fun e z => e = .returned (.bool true) ∧ Below w.heap.size w z := by
  have HTB : Hid (∀ z, Below w.heap.size w z → TabAt 0 z) := Lib.hid fun z hz => ht.later hz
  have HG1 : Hid (beginI R = 1) := Lib.hid (beginI_no h1)
  have HG2 : Hid (beginI R' = 0) := Lib.hid (beginI_ok h2)
  have HX := Lib.hid (Below.refl w.heap.size w)
  clear ht
  have tk1 : True := trivial
  have tk2 : True := trivial
  have tk3 : True := trivial
  go_enter Tryd.func7, Tryd.ntmps7
  go_wp2_with (first
    | (go_at_call 11; go_must (refine (told_any _ (HTB.out _ HX.out)).mono ?_); rintro e x3 ⟨rfl, hb⟩; replace HX := Lib.hid (below_up HX.out hb); clear hb)
    | (go_at_call 22; have _t := tk1; go_must (refine (begin_no R _ h1).mono ?_); rintro e x4 ⟨rfl, hb⟩; replace HX := Lib.hid (below_up HX.out hb); clear hb tk1 _t)
    | (go_at_call 22; have _t := tk2; go_must (refine (begin_ok2 R' _ h2).mono ?_); rintro e x5 ⟨g2, rfl, hb⟩; replace HX := Lib.hid (below_up HX.out hb); clear hb tk2 _t)
    | (go_at_call 31; have _t := tk3; go_must (refine (rbegin_any R _).mono ?_); rw [HG1.out]; rintro e y6 ⟨rfl, rfl⟩; clear tk3 _t)
    | (go_at_call 31; go_must (refine (rbegin_any R' _).mono ?_); rw [HG2.out]; rintro e y7 ⟨rfl, rfl⟩))
  go_ret
  exact ⟨rfl, HX.out⟩
set_option maxRecDepth 10000000 in
set_option maxHeartbeats 4000000 in
theorem builds_on (R R' : Int) (v2 v3 : Value) (w : World) (h1 : ¬ (R < 1 ∨ 16 < R)) (h2 : R' < 1 ∨ 16 < R') (ht : TabAt 0 w) :
    Calls Tryd.prog 7 #[.int .i64 R, .int .i64 R', v2, v3] w fun e z => e = .returned (.bool true) ∧ Below w.heap.size w z := by
  have HTB : Hid (∀ z, Below w.heap.size w z → TabAt 0 z) := Lib.hid fun z hz => ht.later hz
  have HG1 : Hid (beginI R = 0) := Lib.hid (beginI_ok h1)
  have HG2 : Hid (beginI R' = 1) := Lib.hid (beginI_no h2)
  have HX := Lib.hid (Below.refl w.heap.size w)
  clear ht
  have tk1 : True := trivial
  have tk2 : True := trivial
  have tk3 : True := trivial
  go_enter Tryd.func7, Tryd.ntmps7
  go_wp2_with (first
    | (go_at_call 11; go_must (refine (told_any _ (HTB.out _ HX.out)).mono ?_); rintro e x3 ⟨rfl, hb⟩; replace HX := Lib.hid (below_up HX.out hb); clear hb)
    | (go_at_call 22; have _t := tk1; go_must (refine (begin_ok2 R _ h1).mono ?_); rintro e x4 ⟨g1, rfl, hb⟩; replace HX := Lib.hid (below_up HX.out hb); clear hb tk1 _t)
    | (go_at_call 22; have _t := tk2; go_must (refine (begin_no R' _ h2).mono ?_); rintro e x5 ⟨rfl, hb⟩; replace HX := Lib.hid (below_up HX.out hb); clear hb tk2 _t)
    | (go_at_call 31; have _t := tk3; go_must (refine (rbegin_any R _).mono ?_); rw [HG1.out]; rintro e y6 ⟨rfl, rfl⟩; clear tk3 _t)
    | (go_at_call 31; go_must (refine (rbegin_any R' _).mono ?_); rw [HG2.out]; rintro e y7 ⟨rfl, rfl⟩))
  go_ret
  exact ⟨rfl, HX.out⟩
theorem buildsI_any (R R' : Int) (es : List Ent) (A : Option Addr) (n c : Nat) (T : Option Addr) (nt ct : Nat) (bs : List Bool) (w : World) (hes : Ens w A n es) (hnc : n ≤ c) (hbs : Reads w w.heap.size 1 T nt (boolL bs)) (hnt : nt ≤ 9223372036854775807) (ht : TabAt 0 w) :
    Calls Tryd.prog 7 #[.int .i64 R, .int .i64 R', .slice A n c, .slice T nt ct] w fun e z => e = .returned (.bool true) ∧ Below w.heap.size w z := by
  by_cases h1 : R < 1 ∨ 16 < R
  · by_cases h2 : R' < 1 ∨ 16 < R'
    · exact builds_nn R R' _ _ w h1 h2 ht
    · exact builds_no R R' _ _ w h1 h2 ht
  · by_cases h2 : R' < 1 ∨ 16 < R'
    · exact builds_on R R' _ _ w h1 h2 ht
    · obtain ⟨r, rfl⟩ : ∃ z : Nat, R = (z : Int) := ⟨R.toNat, by omega⟩
      obtain ⟨q, rfl⟩ : ∃ z : Nat, R' = (z : Int) := ⟨R'.toNat, by omega⟩
      exact builds_any r q es A n c T nt ct bs w (by omega) (by omega) hes hnc hbs hnt ht
end Go.Proofs.YtmigjipfomfacaaDoor
namespace Go.Proofs.YtmigjipfomfacaaDoor
open Go.RowKit Go.WideShapes Go.ChangeShapes Go.Joins Go.Deep
section
variable {H : Type} {enc : TypeId × Value → H} {w : World} {base : Nat} {held : Bool}
set_option maxRecDepth 100000 in
theorem full_ents_top2 {r : Reach} {b0 : Nat} {v : Value} {d : DataW H} {ps : List MemPlace} (hval : Value.okWide Tryd.prog w r b0 22 v) (h : DataW.Trod enc Tryd.prog w base (fun _ => true) held 22 v d ps) :
    ∃ (A : Option Addr) (n c : Nat) (L : List Ent), v = .slice A n c ∧ n ≤ c ∧ Ens w A n L := by
  obtain ⟨fuel, hf⟩ := open_slice_top Tryd.underlying22 hval h
  obtain ⟨A, n, c, L, h1, h2, h3, h4⟩ := full_ents hf
  injection h1 with h1
  exact ⟨A, n, c, L, h1, h2, h4⟩
set_option maxRecDepth 100000 in
theorem open_bools {spare : Nat → Bool} {fuel : Nat} {cs : List Value} {x : DataW H × List MemPlace} (h : DataW.trod enc Tryd.prog w base spare held fuel 68 cs = some x) :
    ∃ (A : Option Addr) (c : Nat) (l : List Bool), cs = [.slice A l.length c] ∧ l.length ≤ c ∧ c ≤ 9223372036854775807 ∧ Reads w w.heap.size 1 A l.length (boolL l) := by
  rcases open_slice1 Tryd.underlying68 (by kernel_rfl) h with ⟨rfl, _⟩ | ⟨a, len, cap, m, n, V, D, Pl, rfl, _, hl, hm, hmm, _, hi⟩
  · exact ⟨none, 0, [], rfl, by simp, by omega, Reads.nil⟩
  · have hlm : len ≤ m := by rw [hmm]; split <;> omega
    obtain ⟨l, hll, hq⟩ := list_of (Q := fun i (b : Bool) => w.cell? (a.add i) = some (.bool b)) len (fun i hi' => by
      obtain ⟨h1, h2⟩ := hi i (by omega)
      obtain ⟨v, e0, _⟩ := DataW.trod_bool Tryd.underlying4 h2
      injection e0 with e0 _
      exact ⟨v, by rw [h1, e0]⟩)
    subst hll
    exact ⟨some a, cap, l, rfl, hl, hm, reads_of (by unfold boolL; simp) (by decide) fun j u hu => by
      simp only [boolL, List.getElem?_map, Option.map_eq_some_iff] at hu
      obtain ⟨b, hb, rfl⟩ := hu
      exact hq j b hb⟩
set_option maxRecDepth 100000 in
theorem open_bools_top {r : Reach} {b0 : Nat} {v : Value} {d : DataW H} {ps : List MemPlace} (hval : Value.okWide Tryd.prog w r b0 68 v) (h : DataW.Trod enc Tryd.prog w base (fun _ => true) held 68 v d ps) :
    ∃ (A : Option Addr) (c : Nat) (l : List Bool), v = .slice A l.length c ∧ l.length ≤ 9223372036854775807 ∧ Reads w w.heap.size 1 A l.length (boolL l) := by
  obtain ⟨fuel, hf⟩ := open_slice_top Tryd.underlying68 hval h
  obtain ⟨A, c, l, h1, h2, h3, h4⟩ := open_bools hf
  injection h1 with h1
  exact ⟨A, c, l, h1, by omega, h4⟩
end
end Go.Proofs.YtmigjipfomfacaaDoor
