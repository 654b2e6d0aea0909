/-
  Laid together by merge.py: RunW3, RunW4, RunW5, RunW6, BlockQ1, BlockQ2.
-/
import Derived.Test.YtfdbcfaeiglbeaaGreatDoorRQ8
import Derived.Test.YtfdbcfaeiglbeaaGreatDoorRQ7
import Derived.Test.YtfdbcfaeiglbeaaGreatDoorRQ1
import Derived.Test.YtfdbcfaeiglbeaaGreatDoorRQ6
import Derived.Test.YtfdbcfaeiglbeaaGreatDoorRQ4
namespace Go.Proofs.YtfdbcfaeiglbeaaGreatDoor
open Go.RowKit
theorem err_post {w y : World} {p : List UInt8 × Int} {k : Int} (hb : Below w.heap.size w y) (h : p = ([], k)) : BytesPost2 5 p.1 p.2 w (.returned (.tuple #[.slice none 0 0, .int .i64 k])) y := by
  subst h; exact bytes_post2 (n := 0) (own_nil _ _ _ _) hb
theorem opts_row : RowTy Tryz.prog 23 5 := ⟨⟨_, Tryz.underlying23, rfl⟩, by kernel_rfl⟩
theorem os_comm (X Y : List Ob) : (X ++ Y).Perm (Y ++ X) := List.perm_append_comm
theorem wl_idx {ops : Array Oper} {Q : Exit → Act → World → Prop} {rest : List Oper} {o : Oper} {a : Act} {w : World} {v : Value} (hgd : Region.wanted o (yielded ops a.tmps) = true) (t : TypeId) (x i : Operand) (ho : o.op = .index t x i) (hrun : (Instr.index t (a.eval x) (a.eval i)).run Tryz.prog w = .ok v w) (hK : wpList Tryz.prog ops Q rest (a.put o.dst v) w) : wpList Tryz.prog ops Q (o :: rest) a w :=
  BigFrame.wpList_want hgd fun _ hk => by
    unfold Oper.wp execOp
    simp only [ho, Sem.run_bind, hrun, Result.andThen_ok, Sem.run_pure]
    exact hk _ _ hK
theorem idx7_0 (a b c d e f g : Value) (w : World) : (Instr.index 127 (.agg #[a, b, c, d, e, f, g]) (.int .i64 0)).run Tryz.prog w = .ok a w := by kernel_rfl
theorem idx7_1 (a b c d e f g : Value) (w : World) : (Instr.index 127 (.agg #[a, b, c, d, e, f, g]) (.int .i64 1)).run Tryz.prog w = .ok b w := by kernel_rfl
theorem idx7_2 (a b c d e f g : Value) (w : World) : (Instr.index 127 (.agg #[a, b, c, d, e, f, g]) (.int .i64 2)).run Tryz.prog w = .ok c w := by kernel_rfl
theorem idx7_3 (a b c d e f g : Value) (w : World) : (Instr.index 127 (.agg #[a, b, c, d, e, f, g]) (.int .i64 3)).run Tryz.prog w = .ok d w := by kernel_rfl
theorem idx7_4 (a b c d e f g : Value) (w : World) : (Instr.index 127 (.agg #[a, b, c, d, e, f, g]) (.int .i64 4)).run Tryz.prog w = .ok e w := by kernel_rfl
theorem idx7_5 (a b c d e f g : Value) (w : World) : (Instr.index 127 (.agg #[a, b, c, d, e, f, g]) (.int .i64 5)).run Tryz.prog w = .ok f w := by kernel_rfl
theorem idx7_6 (a b c d e f g : Value) (w : World) : (Instr.index 127 (.agg #[a, b, c, d, e, f, g]) (.int .i64 6)).run Tryz.prog w = .ok g w := by kernel_rfl
theorem rising_of (v : Nat) (a : Int) (ha : a = (v : Int)) (w : World) (hv : v < 9223372036854775808) : Calls Tryz.prog 117 #[.int .i64 a] w (BytesPost2 5 (risB v) 0 w) := by subst ha; exact rising_any v w hv
def magC : Array Value := #[.int .u8 83, .int .u8 84, .int .u8 82, .int .u8 65, .int .u8 84, .int .u8 65, .int .u8 45, .int .u8 82]
def magObj : Obj := .cells magC 5 (8, 9)
theorem conv_mag (W : World) (g : Nat) (hg : g = W.heap.size) : (convert 34 34 (.slice (some ⟨g, 0, none⟩) 8 8)).run Tryz.prog (W.alloc (.cells #[.int .u8 83, .int .u8 84, .int .u8 82, .int .u8 65, .int .u8 84, .int .u8 65, .int .u8 45, .int .u8 82] 5)) = .ok (.slice (some ⟨g, 0, none⟩) 8 8) (W.alloc magObj) := by
  subst hg; exact Lib.run_convert_bytes_const (P := Tryz.prog) W 34 5 magC 8 8 Tryz.underlying34 Tryz.underlying5
def OutI (done : List (List Ent)) (A : Option Addr) (c : Nat) (oO : Ob) : Prop := oO = bytO 5 (A, c, headR done) ∨ (done = [] ∧ ∃ g, A = some ⟨g, 0, none⟩ ∧ c = 8 ∧ oO = rawO g magObj)
set_option maxRecDepth 100000 in
theorem wl_appO {ops : Array Oper} {Q : Exit → Act → World → Prop} {rest : List Oper} {o : Oper} {a : Act} {w x : World} {os : List Ob} {oO : Ob} {done : List (List Ent)} {A : Option Addr} {c n : Nat} (hgd : Region.wanted o (yielded ops a.tmps) = true) (s y : Operand) (ho : o.op = .call { callee := .builtin .append, args := #[s, y], argTypes := #[34, 34] })
    (h : OW w (oO :: os) x) (hO : OutI done A c oO) (hn : (headR done).length = n) (hs : a.eval s = .slice A n c) (A2 : Option Addr) (m c2 : Nat) (r : List UInt8) (hy : a.eval y = .slice A2 m c2) (hr : RB x x.heap.size A2 m r) (hm : 0 < m) (hb : n + m ≤ 140737488355328)
    (hK : ∀ A' c' z, OW w (bytO 5 (A', c', headR done ++ r) :: os) z → wpList Tryz.prog ops Q rest (a.put o.dst (.slice A' (n + m) c')) z) : wpList Tryz.prog ops Q (o :: rest) a x := by
  rcases hO with rfl | ⟨rfl, g, rfl, rfl, rfl⟩
  · exact wl_appB hgd s y ho Tryz.u8s' h 0 rfl hn hs x.heap.size A2 m c2 r hy hr hb fun A' c' z hz => hK A' c' z hz
  · have hn8 : n = 8 := hn.symm
    subst hn8
    obtain ⟨ht, ⟨i, z, hi, hz, hsz, hby, hzs⟩, _⟩ := Tryz.u8s'
    obtain ⟨h1, h2⟩ := h.rawh (i := 0) rfl
    have hrl := hr.len
    obtain ⟨b2, o2, _, rfl, _, _, _⟩ := hr.at_ hm
    refine BigFrame.wpList_want hgd fun _ hk => ?_
    obtain ⟨v', w', hrun, g1, g2⟩ := run_append_arg_grows (P := Tryz.prog) x 34 o.type 5 i z 1 1 ht hi hz hsz hby hzs (by omega) ⟨g, 0, none⟩ 8 8 (u8s magR) rfl (fun j u hu => by
        have hc : x.cell? ⟨g, j, none⟩ = magC[j]? := by
          simp [World.cell?, h2, magObj]
        rw [Addr.add_lit, Nat.zero_add, hc]
        have : u8s magR = magC.toList := rfl
        rw [this] at hu
        rw [← Array.getElem?_toList]; exact hu)
      ⟨b2, o2, none⟩ m c2 (u8s r) (by rw [u8s_length, hrl, Nat.mul_one]) (fun j u hu => by
        rw [Addr.add_lit]
        have hjl : j < r.length := by have h9 := (List.getElem?_eq_some_iff.1 hu).1; rwa [u8s_length] at h9
        obtain ⟨d, hd⟩ : ∃ d, r[j]? = some d := ⟨_, List.getElem?_eq_getElem hjl⟩
        rw [u8s_at hd] at hu
        injection hu with hu; subst hu
        exact hr.cell hd) (by omega) (by unfold maxLen; omega) (by omega)
    obtain ⟨A', cap, rfl, g4, g5, _, _⟩ := own_slice g1
    have hb9 := below_grown_none g2
    have g6 : OwnB 5 x.heap.size w' A' cap (headR [] ++ r) := by
      have e1 : u8s magR ++ u8s r = u8s (headR [] ++ r) := by rw [← u8s_append]; rfl
      rw [e1] at g1
      have e2 : (headR [] ++ r).length = 8 + m := by rw [List.length_append, hrl]; rfl
      show w'.ownsRow _ _ _ _ _ _
      rw [e2]; exact g1
    unfold Oper.wp execOp
    simp only [ho, resolve, invoke, builtin, Sem.run_bind, Sem.run_pure, Result.andThen_ok, List.map_toArray, List.map_cons, List.map_nil, hs, hy, hrun]
    exact hk _ _ (hK A' cap w' (((h.app (OW.byt1 hb9 g6)).erase 0).perm (fr_perm _ _)))
set_option maxRecDepth 10000000 in
set_option maxHeartbeats 16000000 in
theorem write_any (o : OptR) (L : List Ent) (A : Option Addr) (n c : Nat) (w : World) (hes : Ens w A n L) (hn : n ≤ 100000) (ht : TabAt 0 w) :
  Calls Tryz.prog 57 #[.agg #[.int .i64 o.block, .int .i64 o.bits, .int .i64 o.index, .int .i64 o.low, .int .i64 o.clock], .slice A n c] w (BytesPost2 5 (writeR o L).1 (writeR o L).2 w) := by
 have HL : Hid (L.length = n) := Lib.hid hes.len
 have HES : Hid (∀ z, Below w.heap.size w z → Ens z A n L) := Lib.hid fun z hz => hes.later hz
 have HTB : Hid (∀ z, Below w.heap.size w z → TabAt 0 z) := Lib.hid fun z hz => ht.later hz
 have HX := Lib.hid (OW.nil w)
 clear hes ht
 go_enter Tryz.func57, Tryz.ntmps57
 go_upto_region 1 with (refine wl_box rfl (.tmp 0) rfl [.int .i64 o.block, .int .i64 o.bits, .int .i64 o.index, .int .i64 o.low, .int .i64 o.clock] rfl HX.out ?_; intro g2 x1 hz hb; have HX1 : Hid (OW w [boxO g2 [.int .i64 o.block, .int .i64 o.bits, .int .i64 o.index, .int .i64 o.low, .int .i64 o.clock]] x1) := Lib.hid hz; clear hz hb HX)
 have hc0 := HX1.out.cell (i := 0) (j := 0) rfl rfl
 have hc1 := HX1.out.cell (i := 0) (j := 1) rfl rfl
 have hc2 := HX1.out.cell (i := 0) (j := 2) rfl rfl
 have hc3 := HX1.out.cell (i := 0) (j := 3) rfl rfl
 have hc4 := HX1.out.cell (i := 0) (j := 4) rfl rfl
 by_cases h0 : o.block < 64
 case pos =>
  have a0 : decide (o.block < 64) = true := decide_eq_true h0
  have HN : Hid (optOk o = false) := Lib.hid (by have hh : decide (64 ≤ o.block) = false := decide_eq_false (by omega); unfold optOk; rw [hh]; simp only [Bool.false_and, Bool.and_false])
  clear h0
  go_wp2_with fail
  go_ret2
  exact err_post HX1.out.up (opt_no HN.out)
 have a0 : decide (o.block < 64) = false := decide_eq_false h0
 by_cases h1 : 65536 < o.block
 case pos =>
  have a1 : decide (o.block > 65536) = true := decide_eq_true h1
  have HN : Hid (optOk o = false) := Lib.hid (by have hh : decide (o.block ≤ 65536) = false := decide_eq_false (by omega); unfold optOk; rw [hh]; simp only [Bool.false_and, Bool.and_false])
  have b1 : decide (65536 < o.block) = true := decide_eq_true h1
  clear h0 h1
  go_wp2_with fail
  go_ret2
  exact err_post HX1.out.up (opt_no HN.out)
 have a1 : decide (o.block > 65536) = false := decide_eq_false h1
 have b1 : decide (65536 < o.block) = false := decide_eq_false h1
 by_cases h2 : o.bits < 0
 case pos =>
  have a2 : decide (o.bits < 0) = true := decide_eq_true h2
  have HN : Hid (optOk o = false) := Lib.hid (by have hh : decide (0 ≤ o.bits) = false := decide_eq_false (by omega); unfold optOk; rw [hh]; simp only [Bool.false_and, Bool.and_false])
  clear h0 h1 h2
  go_wp2_with fail
  go_ret2
  exact err_post HX1.out.up (opt_no HN.out)
 have a2 : decide (o.bits < 0) = false := decide_eq_false h2
 by_cases h3 : 20 < o.bits
 case pos =>
  have a3 : decide (o.bits > 20) = true := decide_eq_true h3
  have HN : Hid (optOk o = false) := Lib.hid (by have hh : decide (o.bits ≤ 20) = false := decide_eq_false (by omega); unfold optOk; rw [hh]; simp only [Bool.false_and, Bool.and_false])
  have b3 : decide (20 < o.bits) = true := decide_eq_true h3
  clear h0 h1 h2 h3
  go_wp2_with fail
  go_ret2
  exact err_post HX1.out.up (opt_no HN.out)
 have a3 : decide (o.bits > 20) = false := decide_eq_false h3
 have b3 : decide (20 < o.bits) = false := decide_eq_false h3
 cases hse : sealI o.index o.low o.clock
 case false =>
  have HN : Hid (optOk o = false) := Lib.hid (by unfold optOk; rw [hse]; simp only [Bool.and_false])
  have HSE := Lib.hid hse
  clear h0 h1 h2 h3 hse
  go_wp2_with (go_at_call 68; go_must (refine (rsealed_any _ _ _ _).mono ?_); rw [HSE.out]; rintro e y ⟨rfl, rfl⟩)
  go_ret2
  exact err_post HX1.out.up (opt_no HN.out)
 have HSE0 := Lib.hid hse
 go_upto_region 3 with (go_at_call 68; go_must (refine (rsealed_any _ _ _ _).mono ?_); rw [HSE0.out]; rintro e y ⟨rfl, rfl⟩)
 clear HSE0
 clear hc0 hc1 hc2 hc3 hc4
 have HOK : Hid (optOk o = true) := Lib.hid (by unfold optOk; rw [hse]; simp only [Bool.and_eq_true, decide_eq_true_eq, and_true]; exact ⟨⟨⟨by omega, by omega⟩, by omega⟩, by omega⟩)
 have HSE := Lib.hid (sealI.iff hse)
 have hb1 : 64 ≤ o.block ∧ o.block ≤ 65536 := ⟨by omega, by omega⟩
 have hb2 : 0 ≤ o.bits ∧ o.bits ≤ 20 := ⟨by omega, by omega⟩
 clear hse h0 h1 h2 h3 a0 a1 b1 a2 a3 b3
 by_cases hn0 : n = 0
 case pos =>
  subst hn0
  have HN : Hid (L = []) := Lib.hid (List.eq_nil_of_length_eq_zero HL.out)
  go_wp2_with fail
  go_ret2
  exact err_post HX1.out.up (nil_no HOK.out HN.out)
 have e0 : ((n : Int) == 0) = false := beq_eq_false_iff_ne.2 (by omega)
 have e1 : (n == 0) = false := beq_eq_false_iff_ne.2 hn0
 have HNE : Hid (L ≠ []) := Lib.hid fun h => by have := HL.out; rw [h] at this; exact hn0 this.symm
 obtain ⟨K, hK⟩ : ∃ z, z = lookE o.index none L := ⟨_, rfl⟩
 have HK := Lib.hid hK.symm
 clear hK
 go_upto_region 6 with (first
  | (refine wl_rowR rfl 23 (.tmp 2) rfl rfl (HX1.out.range (i := 0) rfl) opts_row ?_)
  | (go_at_call 106; go_must (refine (look_any o L A n c _ (HES.out _ HX1.out.up) (by omega) ⟨HSE.out.1, HSE.out.2.1⟩).mono ?_); rw [HK.out]; rintro e x2 ⟨rfl, hb⟩; have HX2 := Lib.hid (HX1.out.later hb); clear hb HX1))
 by_cases hK0 : K = 0
 case neg =>
  have e2 : (K != 0) = true := bne_iff_ne.2 hK0
  have HKN := Lib.hid hK0
  clear hK0
  go_wp2_with fail
  go_ret2
  exact err_post HX2.out.up (look_no HOK.out HNE.out HK.out HKN.out)
 have e2 : (K != 0) = false := by rw [hK0]; rfl
 have HRF : Hid (refuseR o L = 0) := Lib.hid (refuse_none HOK.out HNE.out (by rw [HK.out]; exact hK0))
 have HLK : Hid (LookOk o.index L) := Lib.hid (look_ok (by rw [HK.out]; exact hK0))
 clear hK0 HK
 obtain ⟨t, htt⟩ : ∃ z, z = o.block.toNat := ⟨_, rfl⟩
 have ht6 : t ≤ 65536 := by omega
 have htI : (t : Int) = o.block := by omega
 have HCH : Hid (∀ x, x ∈ cutR t [] L → ChOk x) := Lib.hid (cut_ch ht6 HLK.out).1
 have HRB : Hid (runBy o L = runC o L (cutR t [] L)) := Lib.hid (by rw [htt]; rfl)
 have HAS := Lib.hid HLK.out.ascE
 clear htt
 have kc := conv_mag
 go_upto_region 11 with fail
 obtain ⟨g7, hg7⟩ : ∃ z, z = x2.heap.size := ⟨_, rfl⟩
 rw [← hg7]
 have HX4 : Hid (OW w [rawO g7 magObj, boxO g2 [.int .i64 o.block, .int .i64 o.bits, .int .i64 o.index, .int .i64 o.low, .int .i64 o.clock], bytO 5 (none, 0, partsR [])] (x2.alloc magObj)) := Lib.hid (by
  have h1 := (HX2.out.app (OW.raw1 x2 magObj)).nilB 5
  rw [← hg7] at h1
  exact h1.perm (List.Perm.swap _ _ _))
 obtain ⟨x3, hx3⟩ : ∃ z, z = x2.alloc magObj := ⟨_, rfl⟩
 rw [← hx3] at HX4 ⊢
 clear kc hg7 hx3 HX2
 have hdl : (partsR []).length = 0 := rfl
 have HD0 : Hid ([] ++ cutR t [] (L.drop 0) = cutR t [] L) := Lib.hid rfl
 go_wp2_with fail
 go_loopw [7, 8, 9, 10] (fun uo up ub ui wr => ∃ (i l7 l8 nd : Nat) (A7 : Option Addr) (c7 : Nat) (A8 : Option Addr) (c8 : Nat) (done : List (List Ent)) (oO : Ob), i ≤ n ∧ nd ≤ i ∧ l7 ≤ 16777216 ∧ l8 ≤ 2200 * nd ∧ uo = .slice A7 l7 c7 ∧ up = .slice A8 l8 c8 ∧ ub = .int .i64 nd ∧ ui = .int .i64 i ∧ Hid (done.length = nd) ∧ Hid ((headR done).length = l7) ∧ Hid ((partsR done).length = l8) ∧ Hid (done ++ cutR t [] (L.drop i) = cutR t [] L) ∧ Hid (OutI done A7 c7 oO) ∧ Hid (OW w [oO, boxO g2 [.int .i64 o.block, .int .i64 o.bits, .int .i64 o.index, .int .i64 o.low, .int .i64 o.clock], bytO 5 (A8, c8, partsR (done))] wr)) (fun _ _ _ ui _ => n - (intOf ui).toNat)
 case atStart => exact ⟨0, 8, 0, 0, some ⟨g7, 0, none⟩, 8, none, 0, [], rawO g7 magObj, Nat.zero_le _, Nat.zero_le _, by omega, Nat.zero_le _, rfl, rfl, rfl, rfl, Lib.hid rfl, Lib.hid rfl, Lib.hid rfl, HD0, Lib.hid (.inr ⟨rfl, g7, rfl, rfl, rfl⟩), HX4⟩
 case round =>
  clear HX4 HD0
  obtain ⟨i, l7, l8, nd, A7, c7, A8, c8, done, oO, hin, hnd, hl7, hl8, rfl, rfl, rfl, rfl, HND, HL7, HL8, HD, HO, HX⟩ := hrel
  by_cases hlt : i < n
  case neg =>
   have hd : decide ((i : Int) < (n : Int)) = false := decide_eq_false (by omega)
   have HDN : Hid (done = cutR t [] L) := Lib.hid (by have h := HD.out; rw [List.drop_eq_nil_of_le (by rw [HL.out]; omega)] at h; have h2 : cutR t [] [] = [] := rfl; rw [h2, List.append_nil] at h; exact h)
   have hin2 : i = n := by omega
   have HCS : Hid (cutR t [] L = done) := Lib.hid HDN.out.symm
   rw [← HDN.out] at HCH HRB
   have hne : done ≠ [] := by rw [HDN.out]; exact cut_ne HNE.out
   have HOB : Hid (oO = bytO 5 (A7, c7, headR done)) := Lib.hid (HO.out.elim id fun h => absurd h.1 hne)
   obtain rfl : oO = bytO 5 (A7, c7, headR done) := HOB.out
   clear hne HOB HO HD HDN
   obtain ⟨fl, hfl⟩ : ∃ z, z = (filtR o L).length := ⟨_, rfl⟩
   have HFL := Lib.hid hfl.symm
   have hfl3 : fl ≤ 3000000 := by rw [hfl]; exact filt_len HOK.out (by rw [HL.out]; omega)
   clear hfl
   go_upto_if 159 with (refine wpList_load_cell rfl 3 (.tmp 157) rfl rfl (HX.out.cell (i := 1) (j := 1) rfl rfl) (fun w => Tryz.isAgg3 w) ?_)
   obtain ⟨w7, rfl⟩ : ∃ z : World, z = wr := ⟨_, rfl⟩
   go_cut [22] (fun fv wx => ∃ (A9 : Option Addr) (c9 : Nat), fv = .slice A9 fl c9 ∧ Hid (OW w [bytO 5 (A9, c9, filtR o L), bytO 5 (A7, c7, headR done), boxO g2 [.int .i64 o.block, .int .i64 o.bits, .int .i64 o.index, .int .i64 o.low, .int .i64 o.clock], bytO 5 (A8, c8, partsR done)] wx))
   case first =>
    by_cases hbt : 0 < o.bits
    case neg =>
     have db : decide (o.bits > 0) = false := decide_eq_false (by omega)
     have db2 : decide (0 < o.bits) = false := decide_eq_false hbt
     have HF0 : Hid (filtR o L = []) := Lib.hid (by unfold filtR; rw [if_neg hbt])
     have HF1 : Hid (fl = 0) := Lib.hid (by rw [← HFL.out, HF0.out]; rfl)
     go_wp2_with fail
     go_meet
     exact ⟨none, 0, by rw [HF1.out], Lib.hid (by rw [HF0.out]; exact (HX.out.nilB 5).perm (fr_perm _ _))⟩
    have db : decide (o.bits > 0) = true := decide_eq_true hbt
    have db2 : decide (0 < o.bits) = true := decide_eq_true hbt
    have HF0 : Hid (buildB o.bits (rowsE L) = filtR o L) := Lib.hid (by unfold filtR; rw [if_pos hbt])
    have HB0 : Hid (buildE o.bits (rowsE L) = 0) := Lib.hid (by unfold buildE; rw [if_neg (by omega), if_neg (by have h1 := rowsE_le L; have h2 := HL.out; omega)])
    go_upto_region 35 with fail
    refine lt_start [] (by kernel_rfl) ?_
    intro xd hd
    refine ⟨fun z => OW w [bytO 5 (A7, c7, headR done), boxO g2 [.int .i64 o.block, .int .i64 o.bits, .int .i64 o.index, .int .i64 o.low, .int .i64 o.clock], bytO 5 (A8, c8, partsR done)] z, ?_⟩
    have HS := Lib.hid (HX.out.later hd)
    refine lp 0 rfl (v := ?_) (fun w => ?_) (fun _ => HS.out) ?_
    rotate_left
    ·first | (go_simp; done) | (go_simp; with_reducible rfl)
    simp only [Act.put, ls1, ls2, ls3]
    refine lq 1 [4, 5, 6, 7, 8, 9] rfl (yi_cell rfl rfl rfl (fun w hS => OW.cell hS (i := 1) (j := 1) rfl rfl) (fun w => Tryz.isAgg3 w)) HS.out ?_
    simp only [Act.put, ls1, ls2, ls3]
    refine lp 2 rfl (v := ?_) (fun w => ?_) (fun _ => HS.out) ?_
    rotate_left
    ·first | (go_simp; done) | (go_simp; with_reducible rfl)
    simp only [Act.put, ls1, ls2, ls3]
    refine lt_call 3 rfl (by kernel_rfl) rfl rfl ⟨_, Tryz.func115, by decide, by kernel_rfl⟩ [.slice A n c] rfl ?_
    refine (rows_any L A n c _ (HES.out _ HS.out.up) (by omega)).mono ?_
    rintro e z9 ⟨Ar, nr, cr, rfl, hr1, hr2, hrb, hb⟩
    have HRB9 := Lib.hid hrb
    have hr3 : nr ≤ 1000000 := by have h1 := rowsE_le L; have h2 := HL.out; omega
    replace HS := Lib.hid (HS.out.later hb)
    clear hb hrb hr2
    refine ⟨_, rfl, fun _ => HS.out, ?_⟩
    simp only [Act.put, ls1, ls2, ls3]
    refine lt_call 4 rfl (by kernel_rfl) rfl rfl ⟨_, Tryz.func114, by decide, by kernel_rfl⟩ [.int .i64 o.bits, .slice Ar nr cr] rfl ?_
    refine (bf_build_any o.bits (rowsE L) Ar nr cr _ (by omega) HRB9.out).mono ?_
    rintro e z8 (⟨_, gf, rfl, ho, hb⟩ | ⟨h0, _⟩)
    rotate_left
    ·exact absurd HB0.out h0
    rw [HF0.out, HFL.out] at ho ⊢
    have HX9 : Hid (OW w ([bytO 5 (A7, c7, headR done), boxO g2 [.int .i64 o.block, .int .i64 o.bits, .int .i64 o.index, .int .i64 o.low, .int .i64 o.clock], bytO 5 (A8, c8, partsR done)] ++ [bytO 5 (some ⟨gf, 0, none⟩, fl, filtR o L)]) z8) := Lib.hid (HS.out.app (OW.byt1 hb (by show World.ownsRow _ _ _ _ _ _ _; rw [HFL.out]; exact ho)))
    replace HS := Lib.hid (HX9.out.left)
    clear ho hb
    refine ⟨_, rfl, fun _ => HS.out, ?_⟩
    simp only [Act.put, ls1, ls2, ls3]
    refine lp 5 rfl (v := ?_) (fun w => ?_) (fun _ => HS.out) ?_
    rotate_left
    ·first | (go_simp; done) | (go_simp; with_reducible rfl)
    simp only [Act.put, ls1, ls2, ls3]
    refine lp 6 rfl (v := ?_) (fun w => ?_) (fun _ => HS.out) ?_
    rotate_left
    ·first | (go_simp; done) | (go_simp; with_reducible rfl)
    simp only [Act.put, ls1, ls2, ls3]
    refine lp 7 rfl (v := ?_) (fun w => ?_) (fun _ => HS.out) ?_
    rotate_left
    ·first | (go_simp; done) | (go_simp; with_reducible rfl)
    simp only [Act.put, ls1, ls2, ls3]
    refine lp 8 rfl (v := ?_) (fun w => ?_) (fun _ => HS.out) ?_
    rotate_left
    ·first | (go_simp; done) | (go_simp; with_reducible rfl)
    simp only [Act.put, ls1, ls2, ls3]
    refine lp 9 rfl (v := ?_) (fun w => ?_) (fun _ => HS.out) ?_
    rotate_left
    ·first | (go_simp; done) | (go_simp; with_reducible rfl)
    simp only [Act.put, ls1, ls2, ls3]
    refine lt_done (by kernel_rfl) ?_
    clear HS
    go_wp2_with fail
    go_meet
    exact ⟨some ⟨gf, 0, none⟩, fl, rfl, Lib.hid (HX9.out.perm (fr_perm _ _))⟩
   clear HX
   obtain ⟨A9, c9, rfl, HX⟩ := hcut
   have HFP : Hid ((sumdB (filtR o L)).length = fl + 4) := Lib.hid (by rw [sumdB_len, HFL.out])
   have HIX : Hid ((uintB nd ++ partsR done) = indexR done) := Lib.hid (by unfold indexR; rw [HND.out])
   obtain ⟨un, hun⟩ : ∃ z, z = (uintB nd).length := ⟨_, rfl⟩
   have HUN := Lib.hid hun.symm
   have hun10 : un ≤ 10 := by rw [hun]; exact uintB_10 (by omega)
   clear hun
   have HIL : Hid ((indexR done).length = un + l8) := Lib.hid (by rw [← HIX.out, List.length_append, HUN.out, HL8.out])
   have HO2 : Hid ((headR done ++ sumdB (filtR o L)).length = l7 + (fl + 4)) := Lib.hid (by rw [List.length_append, HL7.out, HFP.out])
   have HSI : Hid ((sumdB (indexR done)).length = un + l8 + 4) := Lib.hid (by rw [sumdB_len, HIL.out])
   have HO3 : Hid ((headR done ++ sumdB (filtR o L) ++ sumdB (indexR done)).length = l7 + (fl + 4) + (un + l8 + 4)) := Lib.hid (by rw [List.length_append, HO2.out, HSI.out])
   have hzn : IntKind.u64.wrap (nd : Int) = (nd : Int) := IntWalk.u64_in _ ⟨by omega, by omega⟩
   have tk1 : True := trivial
   have tk2 : True := trivial
   have tk3 : True := trivial
   go_upto_region 43 with (first
    | (go_at_call 116; (have _t := tk1); go_must (refine (summedR_any HX.out HFL.out (by omega) (HTB.out _ (Below.refl _ _))).mono ?_); rw [← HFL.out]; rintro e y1 ⟨Af, cf, he, hz⟩; rw [HFL.out] at he; subst he; have HXa : Hid (OW w [bytO 5 (Af, cf, sumdB (filtR o L)), bytO 5 (A7, c7, headR done), boxO g2 [.int .i64 o.block, .int .i64 o.bits, .int .i64 o.index, .int .i64 o.low, .int .i64 o.clock], bytO 5 (A8, c8, partsR done)] y1) := Lib.hid hz; clear hz HX tk1 _t)
    | (at_builtin; (have _t := tk2); go_must (refine wl_appB rfl (.tmp 172) (.tmp 174) rfl Tryz.u8s' HXa.out 1 rfl HL7.out rfl _ Af (fl + 4) cf (sumdB (filtR o L)) rfl (HXa.out.sl (i := 0) rfl HFP.out).rb (by omega) ?_); intro Ag cg y2 hz; have HXb : Hid (OW w [bytO 5 (Af, cf, sumdB (filtR o L)), bytO 5 (Ag, cg, headR done ++ sumdB (filtR o L)), boxO g2 [.int .i64 o.block, .int .i64 o.bits, .int .i64 o.index, .int .i64 o.low, .int .i64 o.clock], bytO 5 (A8, c8, partsR done)] y2) := Lib.hid hz; clear hz HXa tk2 _t)
    | (go_at_call 113; go_must (refine (uint_of nd _ (by first | rfl | exact hzn) _ (by omega)).mono ?_); rintro e y3 hp; obtain ⟨Au, cu, rfl, _, ho, hb⟩ := hp.at_ (n := un) HUN.out; have HXc : Hid (OW w [bytO 5 (Au, cu, uintB nd), bytO 5 (Af, cf, sumdB (filtR o L)), bytO 5 (Ag, cg, headR done ++ sumdB (filtR o L)), boxO g2 [.int .i64 o.block, .int .i64 o.bits, .int .i64 o.index, .int .i64 o.low, .int .i64 o.clock], bytO 5 (A8, c8, partsR done)] y3) := Lib.hid ((HXb.out.app (OW.byt1 hb ho)).perm (fr_perm _ _)); clear hp ho hb HXb)
    | (at_builtin; (have _t := tk3); go_must (refine wl_appB rfl (.tmp 181) (.tmp 182) rfl Tryz.u8s' HXc.out 0 rfl HUN.out rfl _ A8 l8 c8 (partsR done) rfl (HXc.out.sl (i := 4) rfl HL8.out).rb (by omega) ?_); intro Ai ci y4 hz; have HXd : Hid (OW w [bytO 5 (Ai, ci, indexR done), bytO 5 (Af, cf, sumdB (filtR o L)), bytO 5 (Ag, cg, headR done ++ sumdB (filtR o L)), boxO g2 [.int .i64 o.block, .int .i64 o.bits, .int .i64 o.index, .int .i64 o.low, .int .i64 o.clock], bytO 5 (A8, c8, partsR done)] y4) := Lib.hid (by rw [← HIX.out]; exact hz); clear hz HXc tk3 _t)
    | (go_at_call 116; go_must (refine (summedR_any HXd.out HIL.out (by omega) (HTB.out _ (Below.refl _ _))).mono ?_); rintro e y5 ⟨Aj, cj, he, hz⟩; rw [HIL.out] at he; subst he; have HXe : Hid (OW w [bytO 5 (Aj, cj, sumdB (indexR done)), bytO 5 (Af, cf, sumdB (filtR o L)), bytO 5 (Ag, cg, headR done ++ sumdB (filtR o L)), boxO g2 [.int .i64 o.block, .int .i64 o.bits, .int .i64 o.index, .int .i64 o.low, .int .i64 o.clock], bytO 5 (A8, c8, partsR done)] y5) := Lib.hid hz; clear hz HXd)
    | (at_builtin; go_must (refine wl_appB rfl (.tmp 178) (.tmp 184) rfl Tryz.u8s' HXe.out 2 rfl HO2.out rfl _ Aj (un + l8 + 4) cj (sumdB (indexR done)) rfl (HXe.out.sl (i := 0) rfl HSI.out).rb (by omega) ?_); intro Ak ck y6 hz; have HXf : Hid (OW w [bytO 5 (Aj, cj, sumdB (indexR done)), bytO 5 (Af, cf, sumdB (filtR o L)), bytO 5 (Ak, ck, headR done ++ sumdB (filtR o L) ++ sumdB (indexR done)), boxO g2 [.int .i64 o.block, .int .i64 o.bits, .int .i64 o.index, .int .i64 o.low, .int .i64 o.clock], bytO 5 (A8, c8, partsR done)] y6) := Lib.hid hz; clear hz HXe))
   have HNS : Hid (numsR o L done = [n, o.index.toNat, o.low.toNat, o.clock.toNat, nd, l7, l7 + (fl + 4)]) := Lib.hid (by rw [nums_val, HL.out, HND.out, HL7.out, HO2.out])
   have HXg : Hid (OW w [bytO 5 (none, 0, risBs (List.take 0 [n, o.index.toNat, o.low.toNat, o.clock.toNat, nd, l7, l7 + (fl + 4)])), bytO 5 (Ak, ck, headR done ++ sumdB (filtR o L) ++ sumdB (indexR done)), boxO g2 [.int .i64 o.block, .int .i64 o.bits, .int .i64 o.index, .int .i64 o.low, .int .i64 o.clock]] y6) := Lib.hid (((((HXf.out.erase 0).erase 0).erase 2).nilB 5).perm (fr_perm _ _))
   clear HXf
   go_wp2_with (first
    | (refine wpList_load_cell rfl 3 (.tmp 188) rfl rfl (HXg.out.cell (i := 2) (j := 2) rfl rfl) (fun w => Tryz.isAgg3 w) ?_)
    | (refine wpList_load_cell rfl 3 (.tmp 190) rfl rfl (HXg.out.cell (i := 2) (j := 3) rfl rfl) (fun w => Tryz.isAgg3 w) ?_)
    | (refine wpList_load_cell rfl 3 (.tmp 192) rfl rfl (HXg.out.cell (i := 2) (j := 4) rfl rfl) (fun w => Tryz.isAgg3 w) ?_))
   go_loopw [26, 198] (fun nv kv wr => ∃ (k : Nat) (A : Option Addr) (c : Nat), k ≤ 7 ∧ kv = .int .i64 k ∧ nv = .slice A (8 * k) c ∧ Hid (OW w [bytO 5 (A, c, risBs (List.take k [n, o.index.toNat, o.low.toNat, o.clock.toNat, nd, l7, l7 + (fl + 4)])), bytO 5 (Ak, ck, headR done ++ sumdB (filtR o L) ++ sumdB (indexR done)), boxO g2 [.int .i64 o.block, .int .i64 o.bits, .int .i64 o.index, .int .i64 o.low, .int .i64 o.clock]] wr)) (fun _ kv _ => 7 - (intOf kv).toNat)
   case atStart => exact ⟨0, none, 0, by decide, rfl, rfl, HXg⟩
   case round =>
    clear HXg
    obtain ⟨k, An, cn, hk7, rfl, rfl, HZ⟩ := hrel
    rcases (by omega : k = 0 ∨ k = 1 ∨ k = 2 ∨ k = 3 ∨ k = 4 ∨ k = 5 ∨ k = 6 ∨ k = 7) with rfl | rfl | rfl | rfl | rfl | rfl | rfl | rfl
    ·go_wp2_with (first
      | (refine wl_idx rfl 127 (.tmp 197) (.tmp 198) rfl (idx7_0 _ _ _ _ _ _ _ _) ?_)
      | (go_at_call 117; go_must (refine (rising_of (n) _ rfl _ (by have h := HSE.out; omega)).mono ?_); rintro e z1 hp; obtain ⟨Ar, cr, rfl, _, ho, hb⟩ := hp.at_ (n := 8) (risB_len _) rfl; have HZ1 : Hid (OW w [bytO 5 (An, cn, risBs (List.take 0 [n, o.index.toNat, o.low.toNat, o.clock.toNat, nd, l7, l7 + (fl + 4)])), bytO 5 (Ak, ck, headR done ++ sumdB (filtR o L) ++ sumdB (indexR done)), boxO g2 [.int .i64 o.block, .int .i64 o.bits, .int .i64 o.index, .int .i64 o.low, .int .i64 o.clock], bytO 5 (Ar, cr, risB (n))] z1) := Lib.hid (HZ.out.app (OW.byt1 hb ho)); clear hp ho hb HZ)
      | (at_builtin; go_must (refine wl_appB rfl (.tmp 206) (.tmp 207) rfl Tryz.u8s' HZ1.out 0 rfl (show (risBs (List.take 0 [n, o.index.toNat, o.low.toNat, o.clock.toNat, nd, l7, l7 + (fl + 4)])).length = 0 by rw [risBs_len]; rfl) rfl _ Ar 8 cr (risB (n)) rfl (HZ1.out.sl (i := 3) rfl (risB_len _)).rb (by omega) ?_); intro As cs5 z2 hz; have HZ2 : Hid (OW w [bytO 5 (As, cs5, risBs (List.take 1 [n, o.index.toNat, o.low.toNat, o.clock.toNat, nd, l7, l7 + (fl + 4)])), bytO 5 (Ak, ck, headR done ++ sumdB (filtR o L) ++ sumdB (indexR done)), boxO g2 [.int .i64 o.block, .int .i64 o.bits, .int .i64 o.index, .int .i64 o.low, .int .i64 o.clock]] z2) := Lib.hid (by rw [risBs_take (k := 0) (v := n) rfl]; exact OW.left (ps := [_]) hz); clear hz HZ1))
     go_roundw
     case rel => exact ⟨1, As, cs5, by decide, by go_num, rfl, HZ2⟩
     case measure => simp [intOf]
    ·go_wp2_with (first
      | (refine wl_idx rfl 127 (.tmp 197) (.tmp 198) rfl (idx7_1 _ _ _ _ _ _ _ _) ?_)
      | (go_at_call 117; go_must (refine (rising_of (o.index.toNat) _ (Int.toNat_of_nonneg HSE.out.1).symm _ (by have h := HSE.out; omega)).mono ?_); rintro e z1 hp; obtain ⟨Ar, cr, rfl, _, ho, hb⟩ := hp.at_ (n := 8) (risB_len _) rfl; have HZ1 : Hid (OW w [bytO 5 (An, cn, risBs (List.take 1 [n, o.index.toNat, o.low.toNat, o.clock.toNat, nd, l7, l7 + (fl + 4)])), bytO 5 (Ak, ck, headR done ++ sumdB (filtR o L) ++ sumdB (indexR done)), boxO g2 [.int .i64 o.block, .int .i64 o.bits, .int .i64 o.index, .int .i64 o.low, .int .i64 o.clock], bytO 5 (Ar, cr, risB (o.index.toNat))] z1) := Lib.hid (HZ.out.app (OW.byt1 hb ho)); clear hp ho hb HZ)
      | (at_builtin; go_must (refine wl_appB rfl (.tmp 206) (.tmp 207) rfl Tryz.u8s' HZ1.out 0 rfl (show (risBs (List.take 1 [n, o.index.toNat, o.low.toNat, o.clock.toNat, nd, l7, l7 + (fl + 4)])).length = 8 by rw [risBs_len]; rfl) rfl _ Ar 8 cr (risB (o.index.toNat)) rfl (HZ1.out.sl (i := 3) rfl (risB_len _)).rb (by omega) ?_); intro As cs5 z2 hz; have HZ2 : Hid (OW w [bytO 5 (As, cs5, risBs (List.take 2 [n, o.index.toNat, o.low.toNat, o.clock.toNat, nd, l7, l7 + (fl + 4)])), bytO 5 (Ak, ck, headR done ++ sumdB (filtR o L) ++ sumdB (indexR done)), boxO g2 [.int .i64 o.block, .int .i64 o.bits, .int .i64 o.index, .int .i64 o.low, .int .i64 o.clock]] z2) := Lib.hid (by rw [risBs_take (k := 1) (v := o.index.toNat) rfl]; exact OW.left (ps := [_]) hz); clear hz HZ1))
     go_roundw
     case rel => exact ⟨2, As, cs5, by decide, by go_num, rfl, HZ2⟩
     case measure => simp [intOf]
    ·go_wp2_with (first
      | (refine wl_idx rfl 127 (.tmp 197) (.tmp 198) rfl (idx7_2 _ _ _ _ _ _ _ _) ?_)
      | (go_at_call 117; go_must (refine (rising_of (o.low.toNat) _ (Int.toNat_of_nonneg HSE.out.2.2.2.2.1).symm _ (by have h := HSE.out; omega)).mono ?_); rintro e z1 hp; obtain ⟨Ar, cr, rfl, _, ho, hb⟩ := hp.at_ (n := 8) (risB_len _) rfl; have HZ1 : Hid (OW w [bytO 5 (An, cn, risBs (List.take 2 [n, o.index.toNat, o.low.toNat, o.clock.toNat, nd, l7, l7 + (fl + 4)])), bytO 5 (Ak, ck, headR done ++ sumdB (filtR o L) ++ sumdB (indexR done)), boxO g2 [.int .i64 o.block, .int .i64 o.bits, .int .i64 o.index, .int .i64 o.low, .int .i64 o.clock], bytO 5 (Ar, cr, risB (o.low.toNat))] z1) := Lib.hid (HZ.out.app (OW.byt1 hb ho)); clear hp ho hb HZ)
      | (at_builtin; go_must (refine wl_appB rfl (.tmp 206) (.tmp 207) rfl Tryz.u8s' HZ1.out 0 rfl (show (risBs (List.take 2 [n, o.index.toNat, o.low.toNat, o.clock.toNat, nd, l7, l7 + (fl + 4)])).length = 16 by rw [risBs_len]; rfl) rfl _ Ar 8 cr (risB (o.low.toNat)) rfl (HZ1.out.sl (i := 3) rfl (risB_len _)).rb (by omega) ?_); intro As cs5 z2 hz; have HZ2 : Hid (OW w [bytO 5 (As, cs5, risBs (List.take 3 [n, o.index.toNat, o.low.toNat, o.clock.toNat, nd, l7, l7 + (fl + 4)])), bytO 5 (Ak, ck, headR done ++ sumdB (filtR o L) ++ sumdB (indexR done)), boxO g2 [.int .i64 o.block, .int .i64 o.bits, .int .i64 o.index, .int .i64 o.low, .int .i64 o.clock]] z2) := Lib.hid (by rw [risBs_take (k := 2) (v := o.low.toNat) rfl]; exact OW.left (ps := [_]) hz); clear hz HZ1))
     go_roundw
     case rel => exact ⟨3, As, cs5, by decide, by go_num, rfl, HZ2⟩
     case measure => simp [intOf]
    ·go_wp2_with (first
      | (refine wl_idx rfl 127 (.tmp 197) (.tmp 198) rfl (idx7_3 _ _ _ _ _ _ _ _) ?_)
      | (go_at_call 117; go_must (refine (rising_of (o.clock.toNat) _ (Int.toNat_of_nonneg (by have h := HSE.out; omega)).symm _ (by have h := HSE.out; omega)).mono ?_); rintro e z1 hp; obtain ⟨Ar, cr, rfl, _, ho, hb⟩ := hp.at_ (n := 8) (risB_len _) rfl; have HZ1 : Hid (OW w [bytO 5 (An, cn, risBs (List.take 3 [n, o.index.toNat, o.low.toNat, o.clock.toNat, nd, l7, l7 + (fl + 4)])), bytO 5 (Ak, ck, headR done ++ sumdB (filtR o L) ++ sumdB (indexR done)), boxO g2 [.int .i64 o.block, .int .i64 o.bits, .int .i64 o.index, .int .i64 o.low, .int .i64 o.clock], bytO 5 (Ar, cr, risB (o.clock.toNat))] z1) := Lib.hid (HZ.out.app (OW.byt1 hb ho)); clear hp ho hb HZ)
      | (at_builtin; go_must (refine wl_appB rfl (.tmp 206) (.tmp 207) rfl Tryz.u8s' HZ1.out 0 rfl (show (risBs (List.take 3 [n, o.index.toNat, o.low.toNat, o.clock.toNat, nd, l7, l7 + (fl + 4)])).length = 24 by rw [risBs_len]; rfl) rfl _ Ar 8 cr (risB (o.clock.toNat)) rfl (HZ1.out.sl (i := 3) rfl (risB_len _)).rb (by omega) ?_); intro As cs5 z2 hz; have HZ2 : Hid (OW w [bytO 5 (As, cs5, risBs (List.take 4 [n, o.index.toNat, o.low.toNat, o.clock.toNat, nd, l7, l7 + (fl + 4)])), bytO 5 (Ak, ck, headR done ++ sumdB (filtR o L) ++ sumdB (indexR done)), boxO g2 [.int .i64 o.block, .int .i64 o.bits, .int .i64 o.index, .int .i64 o.low, .int .i64 o.clock]] z2) := Lib.hid (by rw [risBs_take (k := 3) (v := o.clock.toNat) rfl]; exact OW.left (ps := [_]) hz); clear hz HZ1))
     go_roundw
     case rel => exact ⟨4, As, cs5, by decide, by go_num, rfl, HZ2⟩
     case measure => simp [intOf]
    ·go_wp2_with (first
      | (refine wl_idx rfl 127 (.tmp 197) (.tmp 198) rfl (idx7_4 _ _ _ _ _ _ _ _) ?_)
      | (go_at_call 117; go_must (refine (rising_of (nd) _ rfl _ (by have h := HSE.out; omega)).mono ?_); rintro e z1 hp; obtain ⟨Ar, cr, rfl, _, ho, hb⟩ := hp.at_ (n := 8) (risB_len _) rfl; have HZ1 : Hid (OW w [bytO 5 (An, cn, risBs (List.take 4 [n, o.index.toNat, o.low.toNat, o.clock.toNat, nd, l7, l7 + (fl + 4)])), bytO 5 (Ak, ck, headR done ++ sumdB (filtR o L) ++ sumdB (indexR done)), boxO g2 [.int .i64 o.block, .int .i64 o.bits, .int .i64 o.index, .int .i64 o.low, .int .i64 o.clock], bytO 5 (Ar, cr, risB (nd))] z1) := Lib.hid (HZ.out.app (OW.byt1 hb ho)); clear hp ho hb HZ)
      | (at_builtin; go_must (refine wl_appB rfl (.tmp 206) (.tmp 207) rfl Tryz.u8s' HZ1.out 0 rfl (show (risBs (List.take 4 [n, o.index.toNat, o.low.toNat, o.clock.toNat, nd, l7, l7 + (fl + 4)])).length = 32 by rw [risBs_len]; rfl) rfl _ Ar 8 cr (risB (nd)) rfl (HZ1.out.sl (i := 3) rfl (risB_len _)).rb (by omega) ?_); intro As cs5 z2 hz; have HZ2 : Hid (OW w [bytO 5 (As, cs5, risBs (List.take 5 [n, o.index.toNat, o.low.toNat, o.clock.toNat, nd, l7, l7 + (fl + 4)])), bytO 5 (Ak, ck, headR done ++ sumdB (filtR o L) ++ sumdB (indexR done)), boxO g2 [.int .i64 o.block, .int .i64 o.bits, .int .i64 o.index, .int .i64 o.low, .int .i64 o.clock]] z2) := Lib.hid (by rw [risBs_take (k := 4) (v := nd) rfl]; exact OW.left (ps := [_]) hz); clear hz HZ1))
     go_roundw
     case rel => exact ⟨5, As, cs5, by decide, by go_num, rfl, HZ2⟩
     case measure => simp [intOf]
    ·go_wp2_with (first
      | (refine wl_idx rfl 127 (.tmp 197) (.tmp 198) rfl (idx7_5 _ _ _ _ _ _ _ _) ?_)
      | (go_at_call 117; go_must (refine (rising_of (l7) _ rfl _ (by have h := HSE.out; omega)).mono ?_); rintro e z1 hp; obtain ⟨Ar, cr, rfl, _, ho, hb⟩ := hp.at_ (n := 8) (risB_len _) rfl; have HZ1 : Hid (OW w [bytO 5 (An, cn, risBs (List.take 5 [n, o.index.toNat, o.low.toNat, o.clock.toNat, nd, l7, l7 + (fl + 4)])), bytO 5 (Ak, ck, headR done ++ sumdB (filtR o L) ++ sumdB (indexR done)), boxO g2 [.int .i64 o.block, .int .i64 o.bits, .int .i64 o.index, .int .i64 o.low, .int .i64 o.clock], bytO 5 (Ar, cr, risB (l7))] z1) := Lib.hid (HZ.out.app (OW.byt1 hb ho)); clear hp ho hb HZ)
      | (at_builtin; go_must (refine wl_appB rfl (.tmp 206) (.tmp 207) rfl Tryz.u8s' HZ1.out 0 rfl (show (risBs (List.take 5 [n, o.index.toNat, o.low.toNat, o.clock.toNat, nd, l7, l7 + (fl + 4)])).length = 40 by rw [risBs_len]; rfl) rfl _ Ar 8 cr (risB (l7)) rfl (HZ1.out.sl (i := 3) rfl (risB_len _)).rb (by omega) ?_); intro As cs5 z2 hz; have HZ2 : Hid (OW w [bytO 5 (As, cs5, risBs (List.take 6 [n, o.index.toNat, o.low.toNat, o.clock.toNat, nd, l7, l7 + (fl + 4)])), bytO 5 (Ak, ck, headR done ++ sumdB (filtR o L) ++ sumdB (indexR done)), boxO g2 [.int .i64 o.block, .int .i64 o.bits, .int .i64 o.index, .int .i64 o.low, .int .i64 o.clock]] z2) := Lib.hid (by rw [risBs_take (k := 5) (v := l7) rfl]; exact OW.left (ps := [_]) hz); clear hz HZ1))
     go_roundw
     case rel => exact ⟨6, As, cs5, by decide, by go_num, rfl, HZ2⟩
     case measure => simp [intOf]
    ·go_wp2_with (first
      | (refine wl_idx rfl 127 (.tmp 197) (.tmp 198) rfl (idx7_6 _ _ _ _ _ _ _ _) ?_)
      | (go_at_call 117; go_must (refine (rising_of (l7 + (fl + 4)) _ (by first | rfl | omega) _ (by have h := HSE.out; omega)).mono ?_); rintro e z1 hp; obtain ⟨Ar, cr, rfl, _, ho, hb⟩ := hp.at_ (n := 8) (risB_len _) rfl; have HZ1 : Hid (OW w [bytO 5 (An, cn, risBs (List.take 6 [n, o.index.toNat, o.low.toNat, o.clock.toNat, nd, l7, l7 + (fl + 4)])), bytO 5 (Ak, ck, headR done ++ sumdB (filtR o L) ++ sumdB (indexR done)), boxO g2 [.int .i64 o.block, .int .i64 o.bits, .int .i64 o.index, .int .i64 o.low, .int .i64 o.clock], bytO 5 (Ar, cr, risB (l7 + (fl + 4)))] z1) := Lib.hid (HZ.out.app (OW.byt1 hb ho)); clear hp ho hb HZ)
      | (at_builtin; go_must (refine wl_appB rfl (.tmp 206) (.tmp 207) rfl Tryz.u8s' HZ1.out 0 rfl (show (risBs (List.take 6 [n, o.index.toNat, o.low.toNat, o.clock.toNat, nd, l7, l7 + (fl + 4)])).length = 48 by rw [risBs_len]; rfl) rfl _ Ar 8 cr (risB (l7 + (fl + 4))) rfl (HZ1.out.sl (i := 3) rfl (risB_len _)).rb (by omega) ?_); intro As cs5 z2 hz; have HZ2 : Hid (OW w [bytO 5 (As, cs5, risBs (List.take 7 [n, o.index.toNat, o.low.toNat, o.clock.toNat, nd, l7, l7 + (fl + 4)])), bytO 5 (Ak, ck, headR done ++ sumdB (filtR o L) ++ sumdB (indexR done)), boxO g2 [.int .i64 o.block, .int .i64 o.bits, .int .i64 o.index, .int .i64 o.low, .int .i64 o.clock]] z2) := Lib.hid (by rw [risBs_take (k := 6) (v := l7 + (fl + 4)) rfl]; exact OW.left (ps := [_]) hz); clear hz HZ1))
     go_roundw
     case rel => exact ⟨7, As, cs5, by decide, by go_num, rfl, HZ2⟩
     case measure => simp [intOf]
    ·have HFL7 : Hid ((risBs [n, o.index.toNat, o.low.toNat, o.clock.toNat, nd, l7, l7 + (fl + 4)]).length = 56) := Lib.hid (by rw [risBs_len]; rfl)
     have HFR : Hid (frameR (risBs [n, o.index.toNat, o.low.toNat, o.clock.toNat, nd, l7, l7 + (fl + 4)]) = frameB (risBs [n, o.index.toNat, o.low.toNat, o.clock.toNat, nd, l7, l7 + (fl + 4)]) ∧ frameE (risBs [n, o.index.toNat, o.low.toNat, o.clock.toNat, nd, l7, l7 + (fl + 4)]) = 0) := Lib.hid (by unfold frameR frameE; rw [HFL7.out]; exact ⟨rfl, rfl⟩)
     have HFB : Hid ((frameB (risBs [n, o.index.toNat, o.low.toNat, o.clock.toNat, nd, l7, l7 + (fl + 4)])).length = 68) := Lib.hid (by rw [frameB_length, HFL7.out])
     obtain ⟨tot, htot⟩ : ∃ z, z = l7 + (fl + 4) + (un + l8 + 4) := ⟨_, rfl⟩
     have HRL : Hid (runBy o L = headR done ++ sumdB (filtR o L) ++ sumdB (indexR done) ++ frameB (risBs [n, o.index.toNat, o.low.toNat, o.clock.toNat, nd, l7, l7 + (fl + 4)])) := Lib.hid (by rw [HRB.out, ← HNS.out]; rfl)
     have HRN : Hid ((runBy o L).length = tot + 68) := Lib.hid (by rw [HRL.out, List.length_append, HO3.out, HFB.out, htot])
     have HO5 : Hid ((headR done ++ sumdB (filtR o L) ++ sumdB (indexR done)).length = tot) := Lib.hid (by rw [htot]; exact HO3.out)
     have HZ0 : Hid (OW w [bytO 5 (An, cn, risBs [n, o.index.toNat, o.low.toNat, o.clock.toNat, nd, l7, l7 + (fl + 4)]), bytO 5 (Ak, ck, headR done ++ sumdB (filtR o L) ++ sumdB (indexR done)), boxO g2 [.int .i64 o.block, .int .i64 o.bits, .int .i64 o.index, .int .i64 o.low, .int .i64 o.clock]] wr) := Lib.hid HZ.out
     have htb : tot ≤ 300000000 := by omega
     rw [← htot]
     clear HZ htot
     go_upto_region 51 with (first
      | (go_at_call 118; go_must (refine (frame_any (risBs [n, o.index.toNat, o.low.toNat, o.clock.toNat, nd, l7, l7 + (fl + 4)]) An 56 cn _ (by omega) (HZ0.out.sl (i := 0) rfl HFL7.out).cap (HZ0.out.sl (i := 0) rfl HFL7.out).lim (HZ0.out.sl (i := 0) rfl HFL7.out).nil (HZ0.out.sl (i := 0) rfl HFL7.out).rb (HTB.out _ HZ0.out.up)).mono ?_); rw [HFR.out.1, HFR.out.2]; rintro e z1 hp; obtain ⟨Af2, cf2, rfl, _, ho, hb⟩ := hp.at_ (n := 68) HFB.out rfl; have HZ1 : Hid (OW w [bytO 5 (An, cn, risBs [n, o.index.toNat, o.low.toNat, o.clock.toNat, nd, l7, l7 + (fl + 4)]), bytO 5 (Ak, ck, headR done ++ sumdB (filtR o L) ++ sumdB (indexR done)), boxO g2 [.int .i64 o.block, .int .i64 o.bits, .int .i64 o.index, .int .i64 o.low, .int .i64 o.clock], bytO 5 (Af2, cf2, frameB (risBs [n, o.index.toNat, o.low.toNat, o.clock.toNat, nd, l7, l7 + (fl + 4)]))] z1) := Lib.hid (HZ0.out.app (OW.byt1 hb ho)); clear hp ho hb HZ0)
      | (at_builtin; go_must (refine wl_appB rfl (.tmp 215) (.tmp 216) rfl Tryz.u8s' HZ1.out 1 rfl HO5.out rfl _ Af2 68 cf2 (frameB (risBs [n, o.index.toNat, o.low.toNat, o.clock.toNat, nd, l7, l7 + (fl + 4)])) rfl (HZ1.out.sl (i := 3) rfl HFB.out).rb (by omega) ?_); intro Ae ce z2 hz; have HZ2 : Hid (OW w [bytO 5 (Ae, ce, headR done ++ sumdB (filtR o L) ++ sumdB (indexR done) ++ frameB (risBs [n, o.index.toNat, o.low.toNat, o.clock.toNat, nd, l7, l7 + (fl + 4)]))] z2) := Lib.hid (OW.left (ps := [_, _]) (OW.erase hz 0)); clear hz HZ1))
     by_cases hbig : 16777216 < tot + 68
     case pos =>
      have dd : decide ((tot : Int) + 68 > 16777216) = true := decide_eq_true (by omega)
      have dd2 : decide (16777216 < (tot : Int) + 68) = true := decide_eq_true (by omega)
      have HW : Hid (writeR o L = ([], 2)) := Lib.hid (wlong_no HRF.out (by rw [HRN.out]; exact hbig))
      go_wp2_with fail
      go_ret2
      exact err_post HZ2.out.up HW.out
     have dd : decide ((tot : Int) + 68 > 16777216) = false := decide_eq_false (by omega)
     have dd2 : decide (16777216 < (tot : Int) + 68) = false := decide_eq_false (by omega)
     have HW : Hid (writeR o L = (runBy o L, 0)) := Lib.hid (write_ok HRF.out (by rw [HRN.out]; exact hbig))
     go_wp2_with fail
     go_ret2
     rw [HW.out]
     exact HZ2.out.bytes2 HRL.out.symm (by rw [← HRL.out]; exact HRN.out) rfl rfl
  have hd : decide ((i : Int) < (n : Int)) = true := decide_eq_true (by omega)
  have i0 : (0 : Int) ≤ (i : Int) := by omega
  have i1 : (i : Int) < (n : Int) := by omega
  obtain ⟨w5, rfl⟩ : ∃ z : World, z = wr := ⟨_, rfl⟩
  go_upto_block 2 with (go_at_call 107; go_must (refine (begin_ok 16 _ (by decide) (by decide)).mono ?_); rintro e x5 ⟨g, os, rfl, hB, hz⟩; have HB := Lib.hid hB; have HX5 : Hid (OW w (os ++ [oO, boxO g2 [.int .i64 o.block, .int .i64 o.bits, .int .i64 o.index, .int .i64 o.low, .int .i64 o.clock], bytO 5 (A8, c8, partsR (done))]) x5) := Lib.hid ((HX.out.app hz).perm (os_comm _ _)); clear hB hz HX)
  go_cut [10] from 81 to 107 (fun uv wx => ∃ (j : Nat) (os : List Ob), i < j ∧ j ≤ n ∧ uv = .int .i64 j ∧ Hid (Bld 16 ((L.drop i).take (j - i)) g os) ∧ Hid (cutR t [] (L.drop i) = ((L.drop i).take (j - i)) :: cutR t [] (L.drop j)) ∧ Hid (OW w (os ++ [oO, boxO g2 [.int .i64 o.block, .int .i64 o.bits, .int .i64 o.index, .int .i64 o.low, .int .i64 o.clock], bytO 5 (A8, c8, partsR (done))]) wx))
  case first =>
   go_wp2_with fail
   go_loopw [10] (fun uv wr => ∃ (j : Nat) (os : List Ob), i ≤ j ∧ j ≤ n ∧ uv = .int .i64 j ∧ Hid (Bld 16 ((L.drop i).take (j - i)) g os) ∧ Hid (cutR t [] (L.drop i) = cutR t ((L.drop i).take (j - i)) (L.drop j)) ∧ Hid (OW w (os ++ [oO, boxO g2 [.int .i64 o.block, .int .i64 o.bits, .int .i64 o.index, .int .i64 o.low, .int .i64 o.clock], bytO 5 (A8, c8, partsR (done))]) wr)) (fun uv _ => n - (intOf uv).toNat)
   case atStart => exact ⟨i, os, Nat.le_refl _, hin, rfl, Lib.hid (by rw [Nat.sub_self, List.take_zero]; exact HB.out), Lib.hid (by rw [Nat.sub_self, List.take_zero]), HX5⟩
   case round =>
    clear HX5 HB
    obtain ⟨j, os, hij, hjn, rfl, HB, HCU, HX⟩ := hrel
    have j0 : (0 : Int) ≤ (j : Int) := by omega
    have HLN : Hid (((L.drop i).take (j - i)).length = j - i) := Lib.hid (by rw [List.length_take, List.length_drop, HL.out]; omega)
    by_cases hjl : j < n
    case neg =>
     have dj : decide ((j : Int) < (n : Int)) = false := decide_eq_false (by omega)
     have HC2 : Hid (cutR t [] (L.drop i) = ((L.drop i).take (j - i)) :: cutR t [] (L.drop j)) := Lib.hid (by
      rw [HCU.out, List.drop_eq_nil_of_le (show L.length ≤ j by rw [HL.out]; omega), cutR_last (fun h => by have := HLN.out; rw [h] at this; simp at this; omega)]; rfl)
     go_upto_region 15 with fail
     refine lt_start [] (by kernel_rfl) ?_
     intro xd hd
     refine ⟨fun z => OW w (os ++ [oO, boxO g2 [.int .i64 o.block, .int .i64 o.bits, .int .i64 o.index, .int .i64 o.low, .int .i64 o.clock], bytO 5 (A8, c8, partsR (done))]) z, ?_⟩
     have HS := Lib.hid (HX.out.later hd)
     refine lp 0 rfl (v := ?_) (fun w => ?_) (fun _ => HS.out) ?_
     rotate_left
     ·first | (go_simp; done) | (go_simp; with_reducible rfl)
     simp only [Act.put, ls1, ls2, ls3]
     refine lp 1 rfl (v := ?_) (fun w => ?_) (fun _ => HS.out) ?_
     rotate_left
     ·first | (go_simp; done) | (go_simp; with_reducible rfl)
     simp only [Act.put, ls1, ls2, ls3]
     refine lp 2 rfl (v := ?_) (fun w => ?_) (fun _ => HS.out) ?_
     rotate_left
     ·first | (go_simp; done) | (go_simp; with_reducible rfl)
     simp only [Act.put, ls1, ls2, ls3]
     refine lp 3 rfl (v := ?_) (fun w => ?_) (fun _ => HS.out) ?_
     rotate_left
     ·first | (go_simp; done) | (go_simp; with_reducible rfl)
     simp only [Act.put, ls1, ls2, ls3]
     refine lp 4 rfl (v := ?_) (fun w => ?_) (fun _ => HS.out) ?_
     rotate_left
     ·first | (go_simp; done) | (go_simp; with_reducible rfl)
     simp only [Act.put, ls1, ls2, ls3]
     refine lk 5 rfl (fun _ => HS.out) ?_
     simp only [Act.put, ls1, ls2, ls3]
     refine lk 6 rfl (fun _ => HS.out) ?_
     simp only [Act.put, ls1, ls2, ls3]
     refine lk 7 rfl (fun _ => HS.out) ?_
     simp only [Act.put, ls1, ls2, ls3]
     refine lk 8 rfl (fun _ => HS.out) ?_
     simp only [Act.put, ls1, ls2, ls3]
     refine lk 9 rfl (fun _ => HS.out) ?_
     simp only [Act.put, ls1, ls2, ls3]
     refine lk 10 rfl (fun _ => HS.out) ?_
     simp only [Act.put, ls1, ls2, ls3]
     refine lk 11 rfl (fun _ => HS.out) ?_
     simp only [Act.put, ls1, ls2, ls3]
     refine lk 12 rfl (fun _ => HS.out) ?_
     simp only [Act.put, ls1, ls2, ls3]
     refine lk 13 rfl (fun _ => HS.out) ?_
     simp only [Act.put, ls1, ls2, ls3]
     refine lk 14 rfl (fun _ => HS.out) ?_
     simp only [Act.put, ls1, ls2, ls3]
     refine lp 15 rfl (v := ?_) (fun w => ?_) (fun _ => HS.out) ?_
     rotate_left
     ·first | (go_simp; done) | (go_simp; with_reducible rfl)
     simp only [Act.put, ls1, ls2, ls3]
     refine lt_done (by kernel_rfl) ?_
     replace HX := Lib.hid HS.out
     clear HS
     go_wp2_with fail
     go_meet
     exact ⟨j, os, by omega, hjn, rfl, HB, HC2, HX⟩
    have dj : decide ((j : Int) < (n : Int)) = true := decide_eq_true (by omega)
    have j1 : (j : Int) < (n : Int) := by omega
    obtain ⟨b, oo, r, rfl, hb, hr, hrg, hen⟩ := (HES.out w (Below.refl _ _)).er hjl
    have HR := Lib.hid hr
    have HRG : Hid (∀ z, Below w.heap.size w z → z.rangeAt b (oo + j * 7) [.slice r.A r.e.row.length r.c, .int .i64 r.e.fam, .slice r.B r.e.qual.length r.d, .int .i64 r.e.ts, .int .i64 r.e.seq, .int .i64 r.e.kind, .slice r.D r.e.val.length r.q]) := Lib.hid fun z hz k v hj => (hz.cell (p := ⟨b, _, none⟩) hb).trans (hrg k v hj)
    have HEN : Hid (∀ z, Below w.heap.size w z → r.En z) := Lib.hid fun z hz => hen.later hz
    clear hb hr hrg hen
    by_cases hji : j = i
    case pos =>
     have dji : ((j : Int) == (i : Int)) = true := by rw [hji]; simp
     have dji2 : (j == i) = true := by rw [hji]; simp
     have HNF : Hid (¬ fullR t ((L.drop i).take (j - i))) := Lib.hid fun h => h.1 (List.eq_nil_of_length_eq_zero (by rw [HLN.out]; omega))
     go_upto_region 15 with fail
     refine lt_start [] (by kernel_rfl) ?_
     intro xd hd
     refine ⟨fun z => OW w (os ++ [oO, boxO g2 [.int .i64 o.block, .int .i64 o.bits, .int .i64 o.index, .int .i64 o.low, .int .i64 o.clock], bytO 5 (A8, c8, partsR (done))]) z, ?_⟩
     have HS := Lib.hid (HX.out.later hd)
     refine lp 0 rfl (v := ?_) (fun w => ?_) (fun _ => HS.out) ?_
     rotate_left
     ·first | (go_simp; done) | (go_simp; with_reducible rfl)
     simp only [Act.put, ls1, ls2, ls3]
     refine lp 1 rfl (v := ?_) (fun w => ?_) (fun _ => HS.out) ?_
     rotate_left
     ·first | (go_simp; done) | (go_simp; with_reducible rfl)
     simp only [Act.put, ls1, ls2, ls3]
     refine lp 2 rfl (v := ?_) (fun w => ?_) (fun _ => HS.out) ?_
     rotate_left
     ·first | (go_simp; done) | (go_simp; with_reducible rfl)
     simp only [Act.put, ls1, ls2, ls3]
     refine lp 3 rfl (v := ?_) (fun w => ?_) (fun _ => HS.out) ?_
     rotate_left
     ·first | (go_simp; done) | (go_simp; with_reducible rfl)
     simp only [Act.put, ls1, ls2, ls3]
     refine lp 4 rfl (v := ?_) (fun w => ?_) (fun _ => HS.out) ?_
     rotate_left
     ·first | (go_simp; done) | (go_simp; with_reducible rfl)
     simp only [Act.put, ls1, ls2, ls3]
     refine lp 5 rfl (v := ?_) (fun w => ?_) (fun _ => HS.out) ?_
     rotate_left
     ·first | (go_simp; done) | (go_simp; with_reducible rfl)
     simp only [Act.put, ls1, ls2, ls3]
     refine lp 6 rfl (v := ?_) (fun w => ?_) (fun _ => HS.out) ?_
     rotate_left
     ·first | (go_simp; done) | (go_simp; with_reducible rfl)
     simp only [Act.put, ls1, ls2, ls3]
     refine lp 7 rfl (v := ?_) (fun w => ?_) (fun _ => HS.out) ?_
     rotate_left
     ·first | (go_simp; done) | (go_simp; with_reducible rfl)
     simp only [Act.put, ls1, ls2, ls3]
     refine lp 8 rfl (v := ?_) (fun w => ?_) (fun _ => HS.out) ?_
     rotate_left
     ·first | (go_simp; done) | (go_simp; with_reducible rfl)
     simp only [Act.put, ls1, ls2, ls3]
     refine lk 9 rfl (fun _ => HS.out) ?_
     simp only [Act.put, ls1, ls2, ls3]
     refine lk 10 rfl (fun _ => HS.out) ?_
     simp only [Act.put, ls1, ls2, ls3]
     refine lk 11 rfl (fun _ => HS.out) ?_
     simp only [Act.put, ls1, ls2, ls3]
     refine lk 12 rfl (fun _ => HS.out) ?_
     simp only [Act.put, ls1, ls2, ls3]
     refine lk 13 rfl (fun _ => HS.out) ?_
     simp only [Act.put, ls1, ls2, ls3]
     refine lp 14 rfl (v := ?_) (fun w => ?_) (fun _ => HS.out) ?_
     rotate_left
     ·first | (go_simp; done) | (go_simp; with_reducible rfl)
     simp only [Act.put, ls1, ls2, ls3]
     refine lp 15 rfl (v := ?_) (fun w => ?_) (fun _ => HS.out) ?_
     rotate_left
     ·first | (go_simp; done) | (go_simp; with_reducible rfl)
     simp only [Act.put, ls1, ls2, ls3]
     refine lt_done (by kernel_rfl) ?_
     replace HX := Lib.hid HS.out
     clear HS
     clear dji dji2 hji
     have HAC : Hid (addC 16 ((L.drop i).take (j - i)) r.e = 0) := Lib.hid (add_fits ht6 HNF.out (HLK.out.chk _ (List.mem_of_getElem? HR.out)) (by rw [← take_more hij HR.out]; exact asc_mid HAS.out _ _))
     have HTM : Hid (addL 16 ((L.drop i).take (j - i)) r.e = (L.drop i).take (j + 1 - i)) := Lib.hid (by rw [add_list HAC.out, take_more hij HR.out])
     have HC3 : Hid (cutR t [] (L.drop i) = cutR t ((L.drop i).take (j + 1 - i)) (L.drop (j + 1))) := Lib.hid (by rw [HCU.out, drop_one HR.out, cutR_add HNF.out, take_more hij HR.out])
     go_wp2_with (first
      | (refine wl_rowR rfl 60 (.tmp 100) rfl rfl (HRG.out _ HX.out.up) ent_rowR ?_)
      | (go_at_call 109; go_must (refine (add_any HB.out HX.out r.e r.A _ r.c r.B _ r.d r.D _ r.q (fun us z hz => HEN.out z hz.up)).mono ?_); rintro e y5 ⟨he, os9, hb9, hx9⟩; rw [HAC.out] at he; subst he; rw [HTM.out] at hb9; have HB9 := Lib.hid hb9; have HX9 := Lib.hid hx9; clear hb9 hx9))
     go_roundw
     case rel => exact ⟨j + 1, os9, by omega, by omega, by go_num, HB9, HC3, HX9⟩
     case measure => simp [intOf]; omega
    have dji : ((j : Int) == (i : Int)) = false := beq_eq_false_iff_ne.2 (by omega)
    have dji2 : (j == i) = false := beq_eq_false_iff_ne.2 hji
    have HNN : Hid (((L.drop i).take (j - i)) ≠ []) := Lib.hid fun h => by have := HLN.out; rw [h] at this; simp at this; omega
    obtain ⟨sz, hsz⟩ : ∃ z, z = szB 16 ((L.drop i).take (j - i)) := ⟨_, rfl⟩
    have HSZ := Lib.hid hsz.symm
    have HSZ2 : Hid (sizeS (runB 16 ((L.drop i).take (j - i))) = sz) := Lib.hid (by rw [hsz]; unfold szB; rw [if_neg HNN.out])
    clear hsz
    by_cases hs : sz < t
    case pos =>
     have ds : decide ((sz : Int) < o.block) = true := decide_eq_true (by omega)
     have HNF : Hid (¬ fullR t ((L.drop i).take (j - i))) := Lib.hid fun h => by have := h.2; rw [HSZ2.out] at this; omega
     clear HSZ2
     go_upto_region 15 with fail
     refine lt_start [] (by kernel_rfl) ?_
     intro xd hd
     refine ⟨fun z => OW w (os ++ [oO, boxO g2 [.int .i64 o.block, .int .i64 o.bits, .int .i64 o.index, .int .i64 o.low, .int .i64 o.clock], bytO 5 (A8, c8, partsR (done))]) z, ?_⟩
     have HS := Lib.hid (HX.out.later hd)
     refine lp 0 rfl (v := ?_) (fun w => ?_) (fun _ => HS.out) ?_
     rotate_left
     ·first | (go_simp; done) | (go_simp; with_reducible rfl)
     simp only [Act.put, ls1, ls2, ls3]
     refine lp 1 rfl (v := ?_) (fun w => ?_) (fun _ => HS.out) ?_
     rotate_left
     ·first | (go_simp; done) | (go_simp; with_reducible rfl)
     simp only [Act.put, ls1, ls2, ls3]
     refine lp 2 rfl (v := ?_) (fun w => ?_) (fun _ => HS.out) ?_
     rotate_left
     ·first | (go_simp; done) | (go_simp; with_reducible rfl)
     simp only [Act.put, ls1, ls2, ls3]
     refine lp 3 rfl (v := ?_) (fun w => ?_) (fun _ => HS.out) ?_
     rotate_left
     ·first | (go_simp; done) | (go_simp; with_reducible rfl)
     simp only [Act.put, ls1, ls2, ls3]
     refine lp 4 rfl (v := ?_) (fun w => ?_) (fun _ => HS.out) ?_
     rotate_left
     ·first | (go_simp; done) | (go_simp; with_reducible rfl)
     simp only [Act.put, ls1, ls2, ls3]
     refine lp 5 rfl (v := ?_) (fun w => ?_) (fun _ => HS.out) ?_
     rotate_left
     ·first | (go_simp; done) | (go_simp; with_reducible rfl)
     simp only [Act.put, ls1, ls2, ls3]
     refine lp 6 rfl (v := ?_) (fun w => ?_) (fun _ => HS.out) ?_
     rotate_left
     ·first | (go_simp; done) | (go_simp; with_reducible rfl)
     simp only [Act.put, ls1, ls2, ls3]
     refine lp 7 rfl (v := ?_) (fun w => ?_) (fun _ => HS.out) ?_
     rotate_left
     ·first | (go_simp; done) | (go_simp; with_reducible rfl)
     simp only [Act.put, ls1, ls2, ls3]
     refine lp 8 rfl (v := ?_) (fun w => ?_) (fun _ => HS.out) ?_
     rotate_left
     ·first | (go_simp; done) | (go_simp; with_reducible rfl)
     simp only [Act.put, ls1, ls2, ls3]
     refine lp 9 rfl (v := ?_) (fun w => ?_) (fun _ => HS.out) ?_
     rotate_left
     ·first | (go_simp; done) | (go_simp; with_reducible rfl)
     simp only [Act.put, ls1, ls2, ls3]
     refine lp 11 rfl (v := ?_) (fun w => ?_) (fun _ => HS.out) ?_
     rotate_left
     ·first | (go_simp; done) | (go_simp; with_reducible rfl)
     simp only [Act.put, ls1, ls2, ls3]
     refine lq 12 [13, 14, 15] rfl (yi_cell rfl rfl rfl (fun w hS => OW.cellm hS (g := g2) (cs := [.int .i64 o.block, .int .i64 o.bits, .int .i64 o.index, .int .i64 o.low, .int .i64 o.clock]) (j := 0) (List.mem_append_right _ (.tail _ (.head _))) rfl) (fun w => Tryz.isAgg3 w)) HS.out ?_
     simp only [Act.put, ls1, ls2, ls3]
     refine lt_call 10 rfl (by kernel_rfl) rfl rfl ⟨_, Tryz.func108, by decide, by kernel_rfl⟩ [.pointer (some ⟨g, 0, none⟩)] rfl ?_
     refine (size_any HB.out HS.out).mono ?_
     rw [HSZ.out]
     rintro e z9 ⟨rfl, hb⟩
     replace HS := Lib.hid (HS.out.later hb)
     clear hb
     refine ⟨_, rfl, fun _ => HS.out, ?_⟩
     simp only [Act.put, ls1, ls2, ls3]
     refine lp 13 rfl (v := ?_) (fun w => ?_) (fun _ => HS.out) ?_
     rotate_left
     ·first | (go_simp; done) | (go_simp; with_reducible rfl)
     simp only [Act.put, ls1, ls2, ls3]
     refine lp 14 rfl (v := ?_) (fun w => ?_) (fun _ => HS.out) ?_
     rotate_left
     ·first | (go_simp; done) | (go_simp; with_reducible rfl)
     simp only [Act.put, ls1, ls2, ls3]
     refine lp 15 rfl (v := ?_) (fun w => ?_) (fun _ => HS.out) ?_
     rotate_left
     ·first | (go_simp; done) | (go_simp; with_reducible rfl)
     simp only [Act.put, ls1, ls2, ls3]
     refine lt_done (by kernel_rfl) ?_
     replace HX := Lib.hid HS.out
     clear HS
     have HAC : Hid (addC 16 ((L.drop i).take (j - i)) r.e = 0) := Lib.hid (add_fits ht6 HNF.out (HLK.out.chk _ (List.mem_of_getElem? HR.out)) (by rw [← take_more hij HR.out]; exact asc_mid HAS.out _ _))
     have HTM : Hid (addL 16 ((L.drop i).take (j - i)) r.e = (L.drop i).take (j + 1 - i)) := Lib.hid (by rw [add_list HAC.out, take_more hij HR.out])
     have HC3 : Hid (cutR t [] (L.drop i) = cutR t ((L.drop i).take (j + 1 - i)) (L.drop (j + 1))) := Lib.hid (by rw [HCU.out, drop_one HR.out, cutR_add HNF.out, take_more hij HR.out])
     go_wp2_with (first
      | (refine wl_rowR rfl 60 (.tmp 100) rfl rfl (HRG.out _ HX.out.up) ent_rowR ?_)
      | (go_at_call 109; go_must (refine (add_any HB.out HX.out r.e r.A _ r.c r.B _ r.d r.D _ r.q (fun us z hz => HEN.out z hz.up)).mono ?_); rintro e y5 ⟨he, os9, hb9, hx9⟩; rw [HAC.out] at he; subst he; rw [HTM.out] at hb9; have HB9 := Lib.hid hb9; have HX9 := Lib.hid hx9; clear hb9 hx9))
     go_roundw
     case rel => exact ⟨j + 1, os9, by omega, by omega, by go_num, HB9, HC3, HX9⟩
     case measure => simp [intOf]; omega
    have ds : decide ((sz : Int) < o.block) = false := decide_eq_false (by omega)
    have HC2 : Hid (cutR t [] (L.drop i) = ((L.drop i).take (j - i)) :: cutR t [] (L.drop j)) := Lib.hid (by rw [HCU.out, cutR_full ⟨HNN.out, by rw [HSZ2.out]; omega⟩])
    clear HSZ2
    go_upto_region 15 with fail
    refine lt_start [] (by kernel_rfl) ?_
    intro xd hd
    refine ⟨fun z => OW w (os ++ [oO, boxO g2 [.int .i64 o.block, .int .i64 o.bits, .int .i64 o.index, .int .i64 o.low, .int .i64 o.clock], bytO 5 (A8, c8, partsR (done))]) z, ?_⟩
    have HS := Lib.hid (HX.out.later hd)
    refine lp 0 rfl (v := ?_) (fun w => ?_) (fun _ => HS.out) ?_
    rotate_left
    ·first | (go_simp; done) | (go_simp; with_reducible rfl)
    simp only [Act.put, ls1, ls2, ls3]
    refine lp 1 rfl (v := ?_) (fun w => ?_) (fun _ => HS.out) ?_
    rotate_left
    ·first | (go_simp; done) | (go_simp; with_reducible rfl)
    simp only [Act.put, ls1, ls2, ls3]
    refine lp 2 rfl (v := ?_) (fun w => ?_) (fun _ => HS.out) ?_
    rotate_left
    ·first | (go_simp; done) | (go_simp; with_reducible rfl)
    simp only [Act.put, ls1, ls2, ls3]
    refine lp 3 rfl (v := ?_) (fun w => ?_) (fun _ => HS.out) ?_
    rotate_left
    ·first | (go_simp; done) | (go_simp; with_reducible rfl)
    simp only [Act.put, ls1, ls2, ls3]
    refine lp 4 rfl (v := ?_) (fun w => ?_) (fun _ => HS.out) ?_
    rotate_left
    ·first | (go_simp; done) | (go_simp; with_reducible rfl)
    simp only [Act.put, ls1, ls2, ls3]
    refine lp 5 rfl (v := ?_) (fun w => ?_) (fun _ => HS.out) ?_
    rotate_left
    ·first | (go_simp; done) | (go_simp; with_reducible rfl)
    simp only [Act.put, ls1, ls2, ls3]
    refine lp 6 rfl (v := ?_) (fun w => ?_) (fun _ => HS.out) ?_
    rotate_left
    ·first | (go_simp; done) | (go_simp; with_reducible rfl)
    simp only [Act.put, ls1, ls2, ls3]
    refine lp 7 rfl (v := ?_) (fun w => ?_) (fun _ => HS.out) ?_
    rotate_left
    ·first | (go_simp; done) | (go_simp; with_reducible rfl)
    simp only [Act.put, ls1, ls2, ls3]
    refine lp 8 rfl (v := ?_) (fun w => ?_) (fun _ => HS.out) ?_
    rotate_left
    ·first | (go_simp; done) | (go_simp; with_reducible rfl)
    simp only [Act.put, ls1, ls2, ls3]
    refine lp 9 rfl (v := ?_) (fun w => ?_) (fun _ => HS.out) ?_
    rotate_left
    ·first | (go_simp; done) | (go_simp; with_reducible rfl)
    simp only [Act.put, ls1, ls2, ls3]
    refine lp 11 rfl (v := ?_) (fun w => ?_) (fun _ => HS.out) ?_
    rotate_left
    ·first | (go_simp; done) | (go_simp; with_reducible rfl)
    simp only [Act.put, ls1, ls2, ls3]
    refine lq 12 [13, 14, 15] rfl (yi_cell rfl rfl rfl (fun w hS => OW.cellm hS (g := g2) (cs := [.int .i64 o.block, .int .i64 o.bits, .int .i64 o.index, .int .i64 o.low, .int .i64 o.clock]) (j := 0) (List.mem_append_right _ (.tail _ (.head _))) rfl) (fun w => Tryz.isAgg3 w)) HS.out ?_
    simp only [Act.put, ls1, ls2, ls3]
    refine lt_call 10 rfl (by kernel_rfl) rfl rfl ⟨_, Tryz.func108, by decide, by kernel_rfl⟩ [.pointer (some ⟨g, 0, none⟩)] rfl ?_
    refine (size_any HB.out HS.out).mono ?_
    rw [HSZ.out]
    rintro e z9 ⟨rfl, hb⟩
    replace HS := Lib.hid (HS.out.later hb)
    clear hb
    refine ⟨_, rfl, fun _ => HS.out, ?_⟩
    simp only [Act.put, ls1, ls2, ls3]
    refine lp 13 rfl (v := ?_) (fun w => ?_) (fun _ => HS.out) ?_
    rotate_left
    ·first | (go_simp; done) | (go_simp; with_reducible rfl)
    simp only [Act.put, ls1, ls2, ls3]
    refine lp 14 rfl (v := ?_) (fun w => ?_) (fun _ => HS.out) ?_
    rotate_left
    ·first | (go_simp; done) | (go_simp; with_reducible rfl)
    simp only [Act.put, ls1, ls2, ls3]
    refine lp 15 rfl (v := ?_) (fun w => ?_) (fun _ => HS.out) ?_
    rotate_left
    ·first | (go_simp; done) | (go_simp; with_reducible rfl)
    simp only [Act.put, ls1, ls2, ls3]
    refine lt_done (by kernel_rfl) ?_
    replace HX := Lib.hid HS.out
    clear HS
    go_wp2_with fail
    go_meet
    exact ⟨j, os, by omega, hjn, rfl, HB, HC2, HX⟩
  clear HX5 HB
  obtain ⟨j, os, hij, hjn, rfl, HB, HCU, HX⟩ := hcut
  obtain ⟨cn, hcn⟩ : ∃ z, z = ((L.drop i).take (j - i)) := ⟨_, rfl⟩
  rw [← hcn] at HB HCU
  have HCN := Lib.hid hcn
  have HDJ : Hid ((done ++ [cn]) ++ cutR t [] (L.drop j) = cutR t [] L) := Lib.hid (by rw [← HD.out, HCU.out, List.append_assoc]; rfl)
  have HCK : Hid (ChOk cn) := Lib.hid (HCH.out cn (by rw [← HDJ.out]; exact List.mem_append_left _ (List.mem_append_right _ (.head _))))
  obtain ⟨bl, hbl⟩ : ∃ z, z = (layB 16 cn).length := ⟨_, rfl⟩
  have HBL := Lib.hid hbl.symm
  have hbl2 : 9 ≤ bl ∧ bl ≤ 131072 := by rw [hbl]; exact ⟨lay_pos HCK.out.ne, build_len HCK.out.bld HCK.out.ne⟩
  have HFI : Hid (finE 16 cn = (layB 16 cn, 0)) := Lib.hid (by unfold finE; rw [if_neg HCK.out.ne])
  have HLN : Hid (cn.length = j - i) := Lib.hid (by rw [hcn, List.length_take, List.length_drop, HL.out]; omega)
  obtain ⟨b, oo, r, hA, hb, hr, hrg, hen⟩ := (HES.out w (Below.refl _ _)).er hlt
  subst hA
  obtain ⟨b', o', q, heq, hb', hq, hqg, hqn⟩ := (HES.out w (Below.refl _ _)).er (show j - 1 < n by omega)
  injection heq with heq
  injection heq with hb9 ho9
  subst hb9 ho9
  have HRG : Hid (∀ z, Below w.heap.size w z → z.rangeAt b (oo + i * 7) [.slice r.A r.e.row.length r.c, .int .i64 r.e.fam, .slice r.B r.e.qual.length r.d, .int .i64 r.e.ts, .int .i64 r.e.seq, .int .i64 r.e.kind, .slice r.D r.e.val.length r.q]) := Lib.hid fun z hz k v hj => (hz.cell (p := ⟨b, _, none⟩) hb).trans (hrg k v hj)
  have HEN : Hid (∀ z, Below w.heap.size w z → r.En z) := Lib.hid fun z hz => hen.later hz
  have HQG : Hid (∀ z, Below w.heap.size w z → z.rangeAt b (oo + (j - 1) * 7) [.slice q.A q.e.row.length q.c, .int .i64 q.e.fam, .slice q.B q.e.qual.length q.d, .int .i64 q.e.ts, .int .i64 q.e.seq, .int .i64 q.e.kind, .slice q.D q.e.val.length q.q]) := Lib.hid fun z hz k v hj => (hz.cell (p := ⟨b, _, none⟩) hb').trans (hqg k v hj)
  have HQN : Hid (∀ z, Below w.heap.size w z → q.En z) := Lib.hid fun z hz => hqn.later hz
  have HFK : Hid (firstK cn = keyE r.e) := Lib.hid (firstK_at (by rw [hcn, List.getElem?_take, if_pos (by omega), List.getElem?_drop]; exact hr))
  have HLA : Hid (lastK cn = keyE q.e) := Lib.hid (lastK_at (by rw [HLN.out, hcn, List.getElem?_take, if_pos (by omega), List.getElem?_drop, show i + (j - i - 1) = j - 1 from by omega]; exact hq))
  have HKE : Hid (KeyE r.e = (firstK cn, 0)) := Lib.hid (by unfold KeyE; rw [if_pos (HLK.out.chk _ (List.mem_of_getElem? hr)), HFK.out])
  have HKQ : Hid (KeyE q.e = (lastK cn, 0)) := Lib.hid (by unfold KeyE; rw [if_pos (HLK.out.chk _ (List.mem_of_getElem? hq)), HLA.out])
  obtain ⟨k1, hk1⟩ : ∃ z, z = (firstK cn).length := ⟨_, rfl⟩
  obtain ⟨k2, hk2⟩ : ∃ z, z = (lastK cn).length := ⟨_, rfl⟩
  obtain ⟨p1, hp1⟩ : ∃ z, z = (keyB (firstK cn)).length := ⟨_, rfl⟩
  obtain ⟨p2, hp2⟩ : ∃ z, z = (keyB (lastK cn)).length := ⟨_, rfl⟩
  obtain ⟨p3, hp3⟩ : ∃ z, z = (uintB bl).length := ⟨_, rfl⟩
  have HK1 := Lib.hid hk1.symm
  have HK2 := Lib.hid hk2.symm
  have HP1 := Lib.hid hp1.symm
  have HP2 := Lib.hid hp2.symm
  have HP3 := Lib.hid hp3.symm
  have hkk : k1 ≤ p1 ∧ p1 ≤ 1058 ∧ k2 ≤ p2 ∧ p2 ≤ 1058 ∧ p3 ≤ 10 := by
   have h1 := keyB_le HCK.out
   have h2 := keyB_len (k := firstK cn)
   have h3 := keyB_len (k := lastK cn)
   have h4 := uintB_10 (v := bl) (by omega)
   omega
  clear hcn hbl hb hr hrg hen hb' hq hqg hqn hk1 hk2 hp1 hp2 hp3
  have s1 : IntKind.i64.wrap ((j : Int) - 1) = (j : Int) - 1 := i64_sum (by omega) (by omega)
  have s2 : IntKind.i64.wrap ((nd : Int) + 1) = (nd : Int) + 1 := i64_sum (by omega) (by omega)
  have j0 : (0 : Int) ≤ (j : Int) := by omega
  have j1 : (1 : Int) ≤ (j : Int) := by omega
  have j2 : (j : Int) - 1 < (n : Int) := by omega
  have j3 : ((j : Int) - 1).toNat = j - 1 := by omega
  have j4 : (0 : Int) ≤ (j : Int) - 1 := by omega
  have tk1 : True := trivial
  have tk2 : True := trivial
  go_upto_region 25 with (first
   | (go_at_call 110; go_must (refine (finish_any HB.out HX.out (HTB.out _ HX.out.up)).mono ?_); rw [HFI.out]; rintro e x6 hp; obtain ⟨Ab, cb, rfl, _, ho, hb⟩ := hp.at_ (n := bl) HBL.out rfl; have HX6 : Hid (OW w [oO, boxO g2 [.int .i64 o.block, .int .i64 o.bits, .int .i64 o.index, .int .i64 o.low, .int .i64 o.clock], bytO 5 (A8, c8, partsR (done)), bytO 5 (Ab, cb, layB 16 cn)] x6) := Lib.hid (HX.out.right.app (OW.byt1 hb ho)); clear hp ho hb HX HB)
   | (refine wl_rowR rfl 60 (.tmp 119) rfl rfl (HRG.out _ HX6.out.up) ent_rowR ?_)
   | (go_at_call 111; (have _t := tk1); go_must (refine (key_any r.e r.A _ r.c r.B _ r.d r.D _ r.q _ (HEN.out _ HX6.out.up)).mono ?_); rw [HKE.out]; rintro e x7 hp; obtain ⟨A1, c1, rfl, _, ho, hb⟩ := hp.at_ (n := k1) HK1.out rfl; have HX7 : Hid (OW w [oO, boxO g2 [.int .i64 o.block, .int .i64 o.bits, .int .i64 o.index, .int .i64 o.low, .int .i64 o.clock], bytO 5 (A8, c8, partsR (done)), bytO 5 (Ab, cb, layB 16 cn), bytO 5 (A1, c1, firstK cn)] x7) := Lib.hid (HX6.out.app (OW.byt1 hb ho)); clear hp ho hb HX6 tk1 _t)
   | (refine wl_rowR rfl 60 (.tmp 128) rfl rfl (HQG.out _ HX7.out.up) ent_rowR ?_)
   | (go_at_call 111; go_must (refine (key_any q.e q.A _ q.c q.B _ q.d q.D _ q.q _ (HQN.out _ HX7.out.up)).mono ?_); rw [HKQ.out]; rintro e x8 hp; obtain ⟨A2, c2, rfl, _, ho, hb⟩ := hp.at_ (n := k2) HK2.out rfl; have HX8 : Hid (OW w [oO, boxO g2 [.int .i64 o.block, .int .i64 o.bits, .int .i64 o.index, .int .i64 o.low, .int .i64 o.clock], bytO 5 (A8, c8, partsR (done)), bytO 5 (Ab, cb, layB 16 cn), bytO 5 (A1, c1, firstK cn), bytO 5 (A2, c2, lastK cn)] x8) := Lib.hid (HX7.out.app (OW.byt1 hb ho)); clear hp ho hb HX7))
  have HPB : Hid ((headR done ++ layB 16 cn).length = l7 + bl) := Lib.hid (by rw [List.length_append, HL7.out, HBL.out])
  have HQ0 : Hid ((partsR done).length = l8) := HL8
  have HQ1 : Hid ((partsR done ++ keyB (firstK cn)).length = l8 + p1) := Lib.hid (by rw [List.length_append, HL8.out, HP1.out])
  have HQ2 : Hid ((partsR done ++ keyB (firstK cn) ++ keyB (lastK cn)).length = l8 + p1 + p2) := Lib.hid (by rw [List.length_append, HQ1.out, HP2.out])
  have HQ3 : Hid ((partsR done ++ keyB (firstK cn) ++ keyB (lastK cn) ++ uintB bl).length = l8 + p1 + p2 + p3) := Lib.hid (by rw [List.length_append, HQ2.out, HP3.out])
  have tk3 : True := trivial
  have tk4 : True := trivial
  have tk5 : True := trivial
  have tk6 : True := trivial
  have hzb : IntKind.u64.wrap (bl : Int) = (bl : Int) := IntWalk.u64_in _ ⟨by omega, by omega⟩
  go_upto_region 30 with (first
   | (at_builtin; (have _t := tk3); go_must (refine wl_appO rfl (.tmp 133) (.tmp 134) rfl HX8.out HO.out HL7.out rfl Ab bl cb (layB 16 cn) rfl (HX8.out.sl (i := 3) rfl HBL.out).rb (by omega) (by omega) ?_); intro Ao co x9 hz; have HX9 : Hid (OW w [bytO 5 (Ao, co, headR done ++ layB 16 cn), boxO g2 [.int .i64 o.block, .int .i64 o.bits, .int .i64 o.index, .int .i64 o.low, .int .i64 o.clock], bytO 5 (A8, c8, partsR (done)), bytO 5 (Ab, cb, layB 16 cn), bytO 5 (A1, c1, firstK cn), bytO 5 (A2, c2, lastK cn)] x9) := Lib.hid hz; clear hz HX8 tk3 _t)
   | (go_at_call 112; (have _t := tk4); go_must (refine (bytes_any (firstK cn) A1 k1 c1 _ (by omega) (HX9.out.sl (i := 4) rfl HK1.out).rb).mono ?_); rintro e y1 hp; obtain ⟨Ax1, cx1, rfl, _, ho, hb⟩ := hp.at_ (n := p1) HP1.out; have HXa : Hid (OW w [bytO 5 (Ao, co, headR done ++ layB 16 cn), boxO g2 [.int .i64 o.block, .int .i64 o.bits, .int .i64 o.index, .int .i64 o.low, .int .i64 o.clock], bytO 5 (A8, c8, partsR (done)), bytO 5 (Ab, cb, layB 16 cn), bytO 5 (A1, c1, firstK cn), bytO 5 (A2, c2, lastK cn), bytO 5 (Ax1, cx1, keyB (firstK cn))] y1) := Lib.hid (HX9.out.app (OW.byt1 hb ho)); clear hp ho hb HX9 tk4 _t)
   | (at_builtin; (have _t := tk5); go_must (refine wl_appB rfl (.tmp 136) (.tmp 138) rfl Tryz.u8s' HXa.out 2 rfl HQ0.out rfl _ Ax1 p1 cx1 (keyB (firstK cn)) rfl (HXa.out.sl (i := 6) rfl HP1.out).rb (by omega) ?_); intro Ap1 cp1 y2 hz; have HXb : Hid (OW w [bytO 5 (Ao, co, headR done ++ layB 16 cn), boxO g2 [.int .i64 o.block, .int .i64 o.bits, .int .i64 o.index, .int .i64 o.low, .int .i64 o.clock], bytO 5 (Ap1, cp1, partsR done ++ keyB (firstK cn)), bytO 5 (Ab, cb, layB 16 cn), bytO 5 (A1, c1, firstK cn), bytO 5 (A2, c2, lastK cn), bytO 5 (Ax1, cx1, keyB (firstK cn))] y2) := Lib.hid hz; clear hz HXa tk5 _t)
   | (go_at_call 112; go_must (refine (bytes_any (lastK cn) A2 k2 c2 _ (by omega) (HXb.out.sl (i := 5) rfl HK2.out).rb).mono ?_); rintro e y3 hp; obtain ⟨Ax2, cx2, rfl, _, ho, hb⟩ := hp.at_ (n := p2) HP2.out; have HXc : Hid (OW w [bytO 5 (Ao, co, headR done ++ layB 16 cn), boxO g2 [.int .i64 o.block, .int .i64 o.bits, .int .i64 o.index, .int .i64 o.low, .int .i64 o.clock], bytO 5 (Ap1, cp1, partsR done ++ keyB (firstK cn)), bytO 5 (Ab, cb, layB 16 cn), bytO 5 (A1, c1, firstK cn), bytO 5 (A2, c2, lastK cn), bytO 5 (Ax1, cx1, keyB (firstK cn)), bytO 5 (Ax2, cx2, keyB (lastK cn))] y3) := Lib.hid (HXb.out.app (OW.byt1 hb ho)); clear hp ho hb HXb)
   | (at_builtin; (have _t := tk6); go_must (refine wl_appB rfl (.tmp 140) (.tmp 142) rfl Tryz.u8s' HXc.out 2 rfl HQ1.out rfl _ Ax2 p2 cx2 (keyB (lastK cn)) rfl (HXc.out.sl (i := 7) rfl HP2.out).rb (by omega) ?_); intro Ap2 cp2 y4 hz; have HXd : Hid (OW w [bytO 5 (Ao, co, headR done ++ layB 16 cn), boxO g2 [.int .i64 o.block, .int .i64 o.bits, .int .i64 o.index, .int .i64 o.low, .int .i64 o.clock], bytO 5 (Ap2, cp2, partsR done ++ keyB (firstK cn) ++ keyB (lastK cn)), bytO 5 (Ab, cb, layB 16 cn), bytO 5 (A1, c1, firstK cn), bytO 5 (A2, c2, lastK cn), bytO 5 (Ax1, cx1, keyB (firstK cn)), bytO 5 (Ax2, cx2, keyB (lastK cn))] y4) := Lib.hid hz; clear hz HXc tk6 _t)
   | (go_at_call 113; go_must (refine (uint_of bl _ (by first | rfl | exact hzb) _ (by omega)).mono ?_); rintro e y5 hp; obtain ⟨Ax3, cx3, rfl, _, ho, hb⟩ := hp.at_ (n := p3) HP3.out; have HXe : Hid (OW w [bytO 5 (Ao, co, headR done ++ layB 16 cn), boxO g2 [.int .i64 o.block, .int .i64 o.bits, .int .i64 o.index, .int .i64 o.low, .int .i64 o.clock], bytO 5 (Ap2, cp2, partsR done ++ keyB (firstK cn) ++ keyB (lastK cn)), bytO 5 (Ab, cb, layB 16 cn), bytO 5 (A1, c1, firstK cn), bytO 5 (A2, c2, lastK cn), bytO 5 (Ax1, cx1, keyB (firstK cn)), bytO 5 (Ax2, cx2, keyB (lastK cn)), bytO 5 (Ax3, cx3, uintB bl)] y5) := Lib.hid (HXd.out.app (OW.byt1 hb ho)); clear hp ho hb HXd)
   | (at_builtin; go_must (refine wl_appB rfl (.tmp 144) (.tmp 148) rfl Tryz.u8s' HXe.out 2 rfl HQ2.out rfl _ Ax3 p3 cx3 (uintB bl) rfl (HXe.out.sl (i := 8) rfl HP3.out).rb (by omega) ?_); intro Ap3 cp3 y6 hz; have HXf : Hid (OW w ([bytO 5 (Ao, co, headR done ++ layB 16 cn), boxO g2 [.int .i64 o.block, .int .i64 o.bits, .int .i64 o.index, .int .i64 o.low, .int .i64 o.clock], bytO 5 (Ap3, cp3, partsR done ++ keyB (firstK cn) ++ keyB (lastK cn) ++ uintB bl)] ++ [bytO 5 (Ab, cb, layB 16 cn), bytO 5 (A1, c1, firstK cn), bytO 5 (A2, c2, lastK cn), bytO 5 (Ax1, cx1, keyB (firstK cn)), bytO 5 (Ax2, cx2, keyB (lastK cn)), bytO 5 (Ax3, cx3, uintB bl)]) y6) := Lib.hid hz; clear hz HXe))
  have HH : Hid (headR done ++ layB 16 cn = headR (done ++ [cn])) := Lib.hid (headR_snoc done cn).symm
  have HPP : Hid (partsR done ++ keyB (firstK cn) ++ keyB (lastK cn) ++ uintB bl = partsR (done ++ [cn])) := Lib.hid (by rw [partsR_snoc, HBL.out])
  have HNC : Hid ((done ++ [cn]).length = nd + 1) := Lib.hid (by rw [List.length_append, HND.out]; rfl)
  have HPL : Hid (l8 + p1 + p2 + p3 ≤ 2200 * (nd + 1)) := Lib.hid (by
   have h1 := partsR_le (cs := done ++ [cn]) fun x hx => HCH.out x (by rw [← HDJ.out]; exact List.mem_append_left _ hx)
   rw [← HPP.out, HQ3.out, HNC.out] at h1; exact h1)
  by_cases hbig : 16777216 < l7 + bl
  case pos =>
   have dd : decide ((l7 : Int) + (bl : Int) > 16777216) = true := decide_eq_true (by omega)
   have dd2 : decide (16777216 < (l7 : Int) + (bl : Int)) = true := decide_eq_true (by omega)
   have HW : Hid (writeR o L = ([], 2)) := Lib.hid (wlong_no HRF.out (by
    have h1 := runC_head o L (cutR t [] L)
    rw [← HDJ.out, headR_app, List.length_append, ← HH.out, HPB.out, HDJ.out] at h1
    rw [HRB.out]; omega))
   go_wp2_with fail
   go_ret2
   exact err_post HXf.out.up HW.out
  have dd : decide ((l7 : Int) + (bl : Int) > 16777216) = false := decide_eq_false (by omega)
  have dd2 : decide (16777216 < (l7 : Int) + (bl : Int)) = false := decide_eq_false (by omega)
  go_wp2_with fail
  go_roundw
  case rel => exact ⟨j, l7 + bl, l8 + p1 + p2 + p3, nd + 1, Ao, co, Ap3, cp3, done ++ [cn], _, hjn, by omega, by omega, HPL.out, by go_num, by go_num, by go_num, rfl, HNC, Lib.hid (by rw [← HH.out]; exact HPB.out), Lib.hid (by rw [← HPP.out]; exact HQ3.out), HDJ, Lib.hid (.inl rfl), Lib.hid (by rw [← HH.out, ← HPP.out]; exact HXf.out.left)⟩
  case measure => simp [intOf]; omega
def numC (f : List UInt8) (k : Nat) : List Value := [0, 1, 2, 3, 4, 5, 6].map fun i => if i < k then .int .i64 (numAt f i) else .int .i64 0
theorem numC_len (f : List UInt8) (k : Nat) : (numC f k).length = 7 := rfl
theorem numC_set (f : List UInt8) {k : Nat} (hk : k < 7) (u : Value) : ((numC f k).set k u) = [0, 1, 2, 3, 4, 5, 6].map fun i => if i < k then .int .i64 (numAt f i) else if i = k then u else .int .i64 0 := by
  rcases (by omega : k = 0 ∨ k = 1 ∨ k = 2 ∨ k = 3 ∨ k = 4 ∨ k = 5 ∨ k = 6) with rfl | rfl | rfl | rfl | rfl | rfl | rfl <;> rfl
theorem numC_next (f : List UInt8) {k : Nat} (hk : k < 7) : ((numC f k).set k (.int .i64 (numAt f k))) = numC f (k + 1) := by
  rcases (by omega : k = 0 ∨ k = 1 ∨ k = 2 ∨ k = 3 ∨ k = 4 ∨ k = 5 ∨ k = 6) with rfl | rfl | rfl | rfl | rfl | rfl | rfl <;> rfl
theorem rframe_of (l : List UInt8) (A : Option Addr) (n c : Nat) (a : Int) (k : Nat) (ha : a = (k : Int)) (w : World) (hn : n ≤ 9223372036854775807) (hnc : n ≤ c) (hc : c ≤ 9223372036854775807) (hA : A = none → c = 0) (hr : RB w w.heap.size A n l) (ht : TabAt 0 w) :
    Calls Tryz.prog 132 #[.slice A n c, .int .i64 a] w (BytesPost3 5 (readFA l k).1 ((readFA l k).2.1 : Nat) ((readFA l k).2.2 : Nat) w) := by subst ha; exact rframe_any l A n c k w hn hnc hc hA hr ht
theorem idxA7 (g k : Nat) (hk : k < 7) (w : World) : (Instr.indexAt 127 (.pointer (some ⟨g, 0, none⟩)) (.int .i64 (k : Nat))).run Tryz.prog w = .ok (.pointer (some ⟨g, k, none⟩)) w := by
  rcases (by omega : k = 0 ∨ k = 1 ∨ k = 2 ∨ k = 3 ∨ k = 4 ∨ k = 5 ∨ k = 6) with rfl | rfl | rfl | rfl | rfl | rfl | rfl <;> kernel_rfl
theorem wl_idxA {ops : Array Oper} {Q : Exit → Act → World → Prop} {rest : List Oper} {o : Oper} {a : Act} {w : World} {v : Value} (hgd : Region.wanted o (yielded ops a.tmps) = true) (t : TypeId) (x i : Operand) (ho : o.op = .indexAddr t x i) (hrun : (Instr.indexAt t (a.eval x) (a.eval i)).run Tryz.prog w = .ok v w) (hK : wpList Tryz.prog ops Q rest (a.put o.dst v) w) : wpList Tryz.prog ops Q (o :: rest) a w :=
  BigFrame.wpList_want hgd fun _ hk => by
    unfold Oper.wp execOp
    simp only [ho, Sem.run_bind, hrun, Result.andThen_ok, Sem.run_pure]
    exact hk _ _ hK
theorem arr_row7 : RowTy Tryz.prog 127 7 := by
  exact ⟨⟨_, Tryz.underlying127, rfl⟩, by kernel_rfl⟩
def NumsP (b : List UInt8) (w : World) (e : Ending) (z : World) : Prop :=
  (∃ f, footO b = some f ∧ allOk f = true ∧ e = .returned (.tuple #[.agg (numC f 7).toArray, .bool true]) ∧ Below w.heap.size w z) ∨ (numsO b = none ∧ (∃ vs : List Value, vs.length = 7 ∧ (∀ u ∈ vs, u.oneCell' = true) ∧ e = .returned (.tuple #[.agg vs.toArray, .bool false])) ∧ Below w.heap.size w z)
theorem nums_no1 {b : List UInt8} (h : footO b = none) : numsO b = none := by unfold numsO; rw [h]
theorem nums_no2 {b f : List UInt8} (h : footO b = some f) {k : Nat} (hk : k < 7) (hn : numOk f k = false) : numsO b = none := by
  unfold numsO
  rw [h]
  have : allOk f = false := by
    cases ha : allOk f with
    | false => rfl
    | true =>
      unfold allOk at ha
      rw [List.all_eq_true] at ha
      rw [ha k (List.mem_range.2 hk)] at hn; cases hn
  dsimp only
  rw [this]; rfl
theorem all_of {f : List UInt8} (h : ∀ k, k < 7 → numOk f k = true) : allOk f = true := by
  unfold allOk
  rw [List.all_eq_true]
  exact fun k hk => h k (List.mem_range.1 hk)
set_option maxRecDepth 1000000 in
set_option maxHeartbeats 16000000 in
theorem numbers_any (b : List UInt8) (A : Option Addr) (n c : Nat) (w : World) (hs : Sl w A n c b) (hn : n ≤ 100000000) (ht : TabAt 0 w) :
    Calls Tryz.prog 66 #[.slice A n c] w (NumsP b w) := by
  have HS : Hid (∀ z, Below w.heap.size w z → Sl z A n c b) := Lib.hid fun z hz => hs.later hz
  have HTB : Hid (∀ z, Below w.heap.size w z → TabAt 0 z) := Lib.hid fun z hz => ht.later hz
  have HL : Hid (b.length = n) := Lib.hid hs.len
  have HX := Lib.hid (OW.nil w)
  have s1 : IntKind.i64.wrap ((n : Int) - 68) = (n : Int) - 68 := i64_sum (by omega) (by omega)
  clear hs ht
  go_enter Tryz.func66, Tryz.ntmps66
  go_upto_region 3 with (first
    | (refine wl_alloc rfl rfl [.int .i64 0, .int .i64 0, .int .i64 0, .int .i64 0, .int .i64 0, .int .i64 0, .int .i64 0] (.inl (by kernel_rfl)) HX.out ?_; intro g2 x1 hz _; have HX1 : Hid (OW w [boxO g2 [.int .i64 0, .int .i64 0, .int .i64 0, .int .i64 0, .int .i64 0, .int .i64 0, .int .i64 0]] x1) := Lib.hid hz; clear hz HX)
    | (refine wl_alloc rfl rfl [.int .i64 0, .int .i64 0, .int .i64 0, .int .i64 0, .int .i64 0, .int .i64 0, .int .i64 0] (.inl (by kernel_rfl)) HX1.out ?_; intro g4 x2 hz _; have HX2 : Hid (OW w [boxO g2 [.int .i64 0, .int .i64 0, .int .i64 0, .int .i64 0, .int .i64 0, .int .i64 0, .int .i64 0], boxO g4 [.int .i64 0, .int .i64 0, .int .i64 0, .int .i64 0, .int .i64 0, .int .i64 0, .int .i64 0]] x2) := Lib.hid hz; clear hz HX1))
  by_cases hlo : n < 68
  case pos =>
    have d1 : decide ((n : Int) - 68 < 0) = true := decide_eq_true (by omega)
    have d2 : decide ((n : Int) < 68) = true := decide_eq_true (by omega)
    have d3 : decide (n < 68) = true := decide_eq_true hlo
    have HN : Hid (numsO b = none) := Lib.hid (nums_no1 (by unfold footO; rw [HL.out, if_pos hlo]))
    go_wp2_with (first
      | (refine wl_rowR rfl 127 (.tmp 4) rfl rfl (HX2.out.range (i := 1) rfl) arr_row7 ?_)
      | (refine wl_put rfl (.tmp 2) (.tmp 15) rfl HX2.out 0 rfl rfl [.int .i64 0, .int .i64 0, .int .i64 0, .int .i64 0, .int .i64 0, .int .i64 0, .int .i64 0] rfl rfl (by kernel_rfl) (by simp [Value.oneCell']) ?_; intro x3 hz _; have HX3 : Hid (OW w [boxO g2 [.int .i64 0, .int .i64 0, .int .i64 0, .int .i64 0, .int .i64 0, .int .i64 0, .int .i64 0], boxO g4 [.int .i64 0, .int .i64 0, .int .i64 0, .int .i64 0, .int .i64 0, .int .i64 0, .int .i64 0]] x3) := Lib.hid hz; clear hz HX2))
    refine bodyPost_ret (results_rowL1 rfl _ _ g2 [.int .i64 0, .int .i64 0, .int .i64 0, .int .i64 0, .int .i64 0, .int .i64 0, .int .i64 0] rfl (HX3.out.range (i := 0) rfl) (by kernel_rfl) (by kernel_rfl)) rfl ?_
    exact .inr ⟨HN.out, ⟨[.int .i64 0, .int .i64 0, .int .i64 0, .int .i64 0, .int .i64 0, .int .i64 0, .int .i64 0], rfl, (by simp [Value.oneCell']), rfl⟩, HX3.out.up⟩
  have d1 : decide ((n : Int) - 68 < 0) = false := decide_eq_false (by omega)
  have d2 : decide ((n : Int) < 68) = false := decide_eq_false (by omega)
  have d3 : decide (n < 68) = false := decide_eq_false hlo
  obtain ⟨p, hp⟩ : ∃ p, n = p + 68 := ⟨n - 68, by omega⟩
  have HE1 : Hid ((n : Int) - 68 = (p : Int)) := Lib.hid (by omega)
  obtain ⟨f, ep, er, hr⟩ : ∃ f ep er, readFA b (p : Int) = (f, ep, er) := ⟨_, _, _, rfl⟩
  obtain ⟨fn, hfn⟩ : ∃ z, z = f.length := ⟨_, rfl⟩
  have HR := Lib.hid hr
  have HFN := Lib.hid hfn.symm
  have HF0 : Hid (footO b = if er ≠ 0 ∨ ep ≠ n ∨ fn ≠ 56 then none else some f) := Lib.hid (by unfold footO; rw [HL.out, if_neg hlo, show n - 68 = p from by omega, hr, hfn])
  clear hr hfn hlo hp
  go_upto_region 6 with (go_at_call 132; go_must (refine (rframe_of b A n c _ p HE1.out _ (by omega) (HS.out _ HX2.out.up).cap (HS.out _ HX2.out.up).lim (HS.out _ HX2.out.up).nil (HS.out _ HX2.out.up).rb (HTB.out _ HX2.out.up)).mono ?_); rw [HR.out]; rintro e x3 hpo; obtain ⟨Af, cf, rfl, hsf, ho, hb⟩ := hpo.at_ (n := fn) (p' := (ep : Int)) (k' := (er : Int)) HFN.out rfl rfl; have HX3 : Hid (OW w [boxO g2 [.int .i64 0, .int .i64 0, .int .i64 0, .int .i64 0, .int .i64 0, .int .i64 0, .int .i64 0], boxO g4 [.int .i64 0, .int .i64 0, .int .i64 0, .int .i64 0, .int .i64 0, .int .i64 0, .int .i64 0], bytO 5 (Af, cf, f)] x3) := Lib.hid (HX2.out.app (OW.byt1 hb ho)); clear hpo hsf ho hb HX2)
  by_cases q1 : er = 0
  case neg =>
    have m1 : ((er : Int) != 0) = true := bne_iff_ne.2 (by omega)
    have k1 : (er != 0) = true := bne_iff_ne.2 q1
    have HN : Hid (numsO b = none) := Lib.hid (nums_no1 (by rw [HF0.out, if_pos (.inl q1)]))
    clear q1
    go_wp2_with (first
      | (refine wl_rowR rfl 127 (.tmp 4) rfl rfl (HX3.out.range (i := 1) rfl) arr_row7 ?_)
      | (refine wl_put rfl (.tmp 2) (.tmp 36) rfl HX3.out 0 rfl rfl [.int .i64 0, .int .i64 0, .int .i64 0, .int .i64 0, .int .i64 0, .int .i64 0, .int .i64 0] rfl rfl (by kernel_rfl) (by simp [Value.oneCell']) ?_; intro x4 hz _; have HX4 : Hid (OW w [boxO g2 [.int .i64 0, .int .i64 0, .int .i64 0, .int .i64 0, .int .i64 0, .int .i64 0, .int .i64 0], boxO g4 [.int .i64 0, .int .i64 0, .int .i64 0, .int .i64 0, .int .i64 0, .int .i64 0, .int .i64 0], bytO 5 (Af, cf, f)] x4) := Lib.hid hz; clear hz HX3))
    refine bodyPost_ret (results_rowL1 rfl _ _ g2 [.int .i64 0, .int .i64 0, .int .i64 0, .int .i64 0, .int .i64 0, .int .i64 0, .int .i64 0] rfl (HX4.out.range (i := 0) rfl) (by kernel_rfl) (by kernel_rfl)) rfl ?_
    exact .inr ⟨HN.out, ⟨[.int .i64 0, .int .i64 0, .int .i64 0, .int .i64 0, .int .i64 0, .int .i64 0, .int .i64 0], rfl, (by simp [Value.oneCell']), rfl⟩, HX4.out.up⟩
  have m1 : ((er : Int) != 0) = false := by rw [q1]; simp
  have k1 : (er != 0) = false := by rw [q1]; simp
  by_cases q2 : ep = n
  case neg =>
    have m2 : ((ep : Int) != (n : Int)) = true := bne_iff_ne.2 (by omega)
    have k2 : (ep != n) = true := bne_iff_ne.2 q2
    have HN : Hid (numsO b = none) := Lib.hid (nums_no1 (by rw [HF0.out, if_pos (.inr (.inl q2))]))
    clear q1 q2
    go_wp2_with (first
      | (refine wl_rowR rfl 127 (.tmp 4) rfl rfl (HX3.out.range (i := 1) rfl) arr_row7 ?_)
      | (refine wl_put rfl (.tmp 2) (.tmp 36) rfl HX3.out 0 rfl rfl [.int .i64 0, .int .i64 0, .int .i64 0, .int .i64 0, .int .i64 0, .int .i64 0, .int .i64 0] rfl rfl (by kernel_rfl) (by simp [Value.oneCell']) ?_; intro x4 hz _; have HX4 : Hid (OW w [boxO g2 [.int .i64 0, .int .i64 0, .int .i64 0, .int .i64 0, .int .i64 0, .int .i64 0, .int .i64 0], boxO g4 [.int .i64 0, .int .i64 0, .int .i64 0, .int .i64 0, .int .i64 0, .int .i64 0, .int .i64 0], bytO 5 (Af, cf, f)] x4) := Lib.hid hz; clear hz HX3))
    refine bodyPost_ret (results_rowL1 rfl _ _ g2 [.int .i64 0, .int .i64 0, .int .i64 0, .int .i64 0, .int .i64 0, .int .i64 0, .int .i64 0] rfl (HX4.out.range (i := 0) rfl) (by kernel_rfl) (by kernel_rfl)) rfl ?_
    exact .inr ⟨HN.out, ⟨[.int .i64 0, .int .i64 0, .int .i64 0, .int .i64 0, .int .i64 0, .int .i64 0, .int .i64 0], rfl, (by simp [Value.oneCell']), rfl⟩, HX4.out.up⟩
  have m2 : ((ep : Int) != (n : Int)) = false := by rw [q2]; simp
  have k2 : (ep != n) = false := by rw [q2]; simp
  by_cases q3 : fn = 56
  case neg =>
    have m3 : ((fn : Int) != 56) = true := bne_iff_ne.2 (by omega)
    have k3 : (fn != 56) = true := bne_iff_ne.2 q3
    have HN : Hid (numsO b = none) := Lib.hid (nums_no1 (by rw [HF0.out, if_pos (.inr (.inr q3))]))
    clear q1 q2 q3
    go_wp2_with (first
      | (refine wl_rowR rfl 127 (.tmp 4) rfl rfl (HX3.out.range (i := 1) rfl) arr_row7 ?_)
      | (refine wl_put rfl (.tmp 2) (.tmp 36) rfl HX3.out 0 rfl rfl [.int .i64 0, .int .i64 0, .int .i64 0, .int .i64 0, .int .i64 0, .int .i64 0, .int .i64 0] rfl rfl (by kernel_rfl) (by simp [Value.oneCell']) ?_; intro x4 hz _; have HX4 : Hid (OW w [boxO g2 [.int .i64 0, .int .i64 0, .int .i64 0, .int .i64 0, .int .i64 0, .int .i64 0, .int .i64 0], boxO g4 [.int .i64 0, .int .i64 0, .int .i64 0, .int .i64 0, .int .i64 0, .int .i64 0, .int .i64 0], bytO 5 (Af, cf, f)] x4) := Lib.hid hz; clear hz HX3))
    refine bodyPost_ret (results_rowL1 rfl _ _ g2 [.int .i64 0, .int .i64 0, .int .i64 0, .int .i64 0, .int .i64 0, .int .i64 0, .int .i64 0] rfl (HX4.out.range (i := 0) rfl) (by kernel_rfl) (by kernel_rfl)) rfl ?_
    exact .inr ⟨HN.out, ⟨[.int .i64 0, .int .i64 0, .int .i64 0, .int .i64 0, .int .i64 0, .int .i64 0, .int .i64 0], rfl, (by simp [Value.oneCell']), rfl⟩, HX4.out.up⟩
  have m3 : ((fn : Int) != 56) = false := by rw [q3]; simp
  have k3 : (fn != 56) = false := by rw [q3]; simp
  have HF : Hid (footO b = some f) := Lib.hid (by rw [HF0.out, if_neg (by rintro (h | h | h); exact h q1; exact h q2; exact h q3)])
  have hfn9 : fn ≤ 100 := by omega
  clear q1 q2 q3
  have HX4 : Hid (OW w [boxO g2 [.int .i64 0, .int .i64 0, .int .i64 0, .int .i64 0, .int .i64 0, .int .i64 0, .int .i64 0], boxO g4 (numC f 0), bytO 5 (Af, cf, f)] x3) := Lib.hid HX3.out
  have HAL : Hid (∀ k, k < 0 → numOk f k = true) := Lib.hid fun k hk => absurd hk (Nat.not_lt_zero k)
  clear HX3 HF0 HR
  go_wp2_with fail
  go_loopw [37] (fun kv wr => ∃ k : Nat, k ≤ 7 ∧ kv = .int .i64 k ∧ Hid (∀ j, j < k → numOk f j = true) ∧ Hid (OW w [boxO g2 [.int .i64 0, .int .i64 0, .int .i64 0, .int .i64 0, .int .i64 0, .int .i64 0, .int .i64 0], boxO g4 (numC f k), bytO 5 (Af, cf, f)] wr)) (fun kv _ => 7 - (intOf kv).toNat)
  case atStart => exact ⟨0, by decide, rfl, HAL, HX4⟩
  case round =>
    clear HX4 HAL
    obtain ⟨k, hk7, rfl, HAL, HX⟩ := hrel
    by_cases hk : k < 7
    case neg =>
      have dk : decide ((k : Int) < 7) = false := decide_eq_false (by omega)
      have dk2 : decide (k < 7) = false := decide_eq_false hk
      obtain rfl : k = 7 := by omega
      go_wp2_with (first
        | (refine wl_rowR rfl 127 (.tmp 4) rfl rfl (HX.out.range (i := 1) rfl) arr_row7 ?_)
        | (refine wl_put rfl (.tmp 2) (.tmp 54) rfl HX.out 0 rfl rfl (numC f 7) rfl rfl (by kernel_rfl) (by unfold numC; simp [Value.oneCell']) ?_; intro x5 hz _; have HX5 : Hid (OW w [boxO g2 (numC f 7), boxO g4 (numC f 7), bytO 5 (Af, cf, f)] x5) := Lib.hid hz; clear hz HX))
      refine bodyPost_ret (results_rowL1 rfl _ _ g2 (numC f 7) rfl (HX5.out.range (i := 0) rfl) (by kernel_rfl) (by kernel_rfl)) rfl ?_
      exact .inl ⟨f, HF.out, all_of HAL.out, rfl, HX5.out.up⟩
    have dk : decide ((k : Int) < 7) = true := decide_eq_true (by omega)
    have dk2 : decide (k < 7) = true := decide_eq_true hk
    have k0 : (0 : Int) ≤ (k : Int) := by omega
    have k1 : (k : Int) < 7 := by omega
    have s2 : IntKind.i64.wrap (8 * (k : Int)) = 8 * (k : Int) := i64_sum (by omega) (by omega)
    obtain ⟨v, np, er, hr⟩ : ∃ v np er, readR f ((8 * k : Nat) : Int) = (v, np, er) := ⟨_, _, _, rfl⟩
    have HRR : Hid (readR f (8 * (k : Int)) = (v, np, er)) := Lib.hid (by rw [← hr]; congr 1)
    have HVA : Hid (numAt f k = v) := Lib.hid (by unfold numAt; rw [hr])
    have HOKK : Hid (numOk f k = decide (er = 0)) := Lib.hid (by unfold numOk; rw [hr])
    clear hr
    have hsz : (Tryz.prog.types[3]?.map (·.size)) = some 1 := by kernel_rfl
    go_upto_region 12 with (first
      | (go_at_call 133; go_must (refine (rr_any f Af fn cf _ _ (HX.out.sl (i := 2) rfl HFN.out) (by omega)).mono ?_); rw [HRR.out]; rintro e x4 ⟨rfl, rfl⟩)
      | (refine wl_idxA rfl 127 (.tmp 4) (.tmp 41) rfl (idxA7 g4 k hk _) ?_)
      | (refine wl_put1 rfl (.tmp 49) (.tmp 46) rfl HX.out 1 rfl k rfl (by rw [numC_len]; exact hk) (.int .i64 (v : Nat)) rfl (by kernel_rfl) rfl ?_; intro x5 hz _; have HX5 : Hid (OW w [boxO g2 [.int .i64 0, .int .i64 0, .int .i64 0, .int .i64 0, .int .i64 0, .int .i64 0, .int .i64 0], boxO g4 ((numC f k).set k (.int .i64 (v : Nat))), bytO 5 (Af, cf, f)] x5) := Lib.hid hz; clear hz HX))
    by_cases he : er = 0
    case neg =>
      have d4 : ((er : Int) != 0) = true := bne_iff_ne.2 (by omega)
      have d5 : (er != 0) = true := bne_iff_ne.2 he
      have HN : Hid (numsO b = none) := Lib.hid (nums_no2 HF.out hk (by rw [HOKK.out]; exact decide_eq_false he))
      obtain ⟨cs, hcs⟩ : ∃ z, z = (numC f k).set k (.int .i64 (v : Nat)) := ⟨_, rfl⟩
      have hcl : cs.length = 7 := by rw [hcs, List.length_set]; rfl
      have hc1 : ∀ u ∈ cs, u.oneCell' = true := by
        rw [hcs, numC_set f hk]
        intro u hu
        obtain ⟨i, _, rfl⟩ := List.mem_map.1 hu
        (repeat' split) <;> rfl
      rw [← hcs] at HX5
      clear hcs
      go_wp2_with (first
        | (refine wl_rowR rfl 127 (.tmp 4) rfl rfl (HX5.out.range (i := 1) rfl) (by rw [hcl]; exact arr_row7) ?_)
        | (refine wl_put rfl (.tmp 2) (.tmp 52) rfl HX5.out 0 rfl rfl cs rfl (by rw [hcl]; rfl) (by rw [hcl]; kernel_rfl) hc1 ?_; intro x6 hz _; have HX6 : Hid (OW w [boxO g2 cs, boxO g4 cs, bytO 5 (Af, cf, f)] x6) := Lib.hid hz; clear hz HX5))
      refine bodyPost_ret (results_rowL1 rfl _ _ g2 cs rfl (HX6.out.range (i := 0) rfl) (by kernel_rfl) (by rw [hcl]; kernel_rfl)) rfl ?_
      exact .inr ⟨HN.out, ⟨cs, hcl, hc1, rfl⟩, HX6.out.up⟩
    have d4 : ((er : Int) != 0) = false := by rw [he]; rfl
    have d5 : (er != 0) = false := by rw [he]; rfl
    have HNX : Hid ((numC f k).set k (.int .i64 (v : Nat)) = numC f (k + 1)) := Lib.hid (by rw [← HVA.out]; exact numC_next f hk)
    have HA2 : Hid (∀ j, j < k + 1 → numOk f j = true) := Lib.hid fun j hj => by
      by_cases hjk : j < k
      · exact HAL.out j hjk
      · obtain rfl : j = k := by omega
        rw [HOKK.out]; exact decide_eq_true he
    clear he
    go_wp2_with fail
    go_roundw
    case rel => exact ⟨k + 1, by omega, by go_num, HA2, Lib.hid (by rw [← HNX.out]; exact HX5.out)⟩
    case measure => simp [intOf]; omega
def IdxP (x : List UInt8) (N end' : Nat) (w : World) (e : Ending) (z : World) : Prop :=
  (∃ (l : List PcR) (A : Option Addr) (m c : Nat) (rs : List PRec), pcsO x N end' = some l ∧ e = .returned (.tuple #[.slice A m c, .bool true]) ∧ rs.map PRec.p = l ∧ m = rs.length ∧ OW w (rowO 137 4 (.slice A m c) m (rs.flatMap PRec.cells) :: rs.flatMap PRec.obs) z) ∨ (pcsO x N end' = none ∧ (∃ A m c, e = .returned (.tuple #[.slice A m c, .bool false])) ∧ Below w.heap.size w z)
set_option maxRecDepth 10000000 in
set_option maxHeartbeats 16000000 in
theorem index_any (x : List UInt8) (N end' : Nat) (A : Option Addr) (n c : Nat) (w : World) (hs : Sl w A n c x) (hn : n ≤ 100000000) (hN : N ≤ 100000000) (he8 : 8 ≤ end' ∧ end' ≤ 100000000) (room : Int) (hroom : room = ((end' - 8 : Nat) : Int)) :
  Calls Tryz.prog 72 #[.slice A n c, .int .i64 N, .int .i64 room] w (IdxP x N end' w) := by
 subst hroom
 have HS : Hid (∀ z, Below w.heap.size w z → Sl z A n c x) := Lib.hid fun z hz => hs.later hz
 have HL : Hid (x.length = n) := Lib.hid hs.len
 have HX1 : Hid (OW w [rowO 137 4 (.slice none 0 0) 0 []] w) := Lib.hid ((OW.nil w).nilRow 137 4)
 obtain ⟨v0, p0, q0, hr0⟩ : ∃ v p e, readU x 0 = (v, p, e) := ⟨_, _, _, rfl⟩
 have HR0 := Lib.hid hr0
 have HO := Lib.hid (pcsO_by (n := N) (end' := end') hr0)
 have hv0 : v0 ≤ 18446744073709551615 := by have := readU_val x 0; rw [hr0] at this; exact Nat.le_of_lt_succ this
 have hzN := u64_of N (by omega)
 obtain ⟨he81, he82⟩ := he8
 clear hs hr0
 go_enter Tryz.func72, Tryz.ntmps72
 go_upto_region 2 with (go_at_call 137; go_must (refine (ru_any x A n c 0 _ (by omega) (HS.out _ HX1.out.up).rb).mono ?_); rw [HR0.out]; rintro e x1 ⟨rfl, rfl⟩)
 by_cases g0 : q0 = 0
 case neg =>
  have m0 : ((q0 : Int) != 0) = true := bne_iff_ne.2 (by omega)
  have m1 : (q0 != 0) = true := bne_iff_ne.2 g0
  have HN0 : Hid (pcsO x N end' = none) := Lib.hid (by rw [HO.out, if_pos (.inl g0)])
  clear g0
  go_wp2_with fail
  go_ret2
  exact .inr ⟨HN0.out, ⟨_, _, _, rfl⟩, HX1.out.up⟩
 have m0 : ((q0 : Int) != 0) = false := by rw [g0]; rfl
 have m1 : (q0 != 0) = false := by rw [g0]; rfl
 by_cases g1 : v0 = N
 case neg =>
  have m2 : ((v0 : Int) != (N : Int)) = true := bne_iff_ne.2 (by omega)
  have m3 : (v0 != N) = true := bne_iff_ne.2 g1
  have HN0 : Hid (pcsO x N end' = none) := Lib.hid (by rw [HO.out, if_pos (.inr g1)])
  clear g0 g1
  go_wp2_with fail
  go_ret2
  exact .inr ⟨HN0.out, ⟨_, _, _, rfl⟩, HX1.out.up⟩
 have m2 : ((v0 : Int) != (N : Int)) = false := by rw [g1]; simp
 have m3 : (v0 != N) = false := by rw [g1]; simp
 obtain ⟨PF, hPF⟩ : ∃ z, z = pcsF x end' N p0 8 none := ⟨_, rfl⟩
 have HPO : Hid (pcsO x N end' = idxOk x end' PF) := Lib.hid (by rw [HO.out, if_neg (by rintro (h | h); exact h g0; exact h g1), ← hPF])
 have HI0 : Hid (PF = pcsG (([] : List PRec).map PRec.p) (pcsF x end' (N - 0) p0 8 (lastB (([] : List PRec).map PRec.p)))) := Lib.hid (by rw [hPF]; exact (pcsG_nil _).symm)
 have HP0 : Hid (p0 ≤ 1000000000) := Lib.hid (by have h := readU_le x 0; rw [HR0.out, HL.out] at h; exact Nat.le_trans h (by omega))
 clear g0 g1 hPF HO HR0
 go_wp2_with fail
 go_loopw [2, 9, 11, 12, 34] (fun ro at_ li fr ii wr => ∃ (i p lo : Nat) (A' : Option Addr) (c' : Nat) (rs : List PRec), i ≤ N ∧ p ≤ 1000000000 ∧ 8 ≤ lo ∧ lo ≤ end' ∧ ro = .int .i64 ((end' - lo : Nat) : Int) ∧ at_ = .int .i64 p ∧ li = .slice A' i c' ∧ fr = .int .i64 lo ∧ ii = .int .i64 i ∧ Hid (rs.length = i) ∧ Hid (PF = pcsG (rs.map PRec.p) (pcsF x end' (N - i) p lo (lastB (rs.map PRec.p)))) ∧ Hid (OW w (rowO 137 4 (.slice A' i c') i (rs.flatMap PRec.cells) :: rs.flatMap PRec.obs) wr)) (fun _ _ _ _ ii _ => N - (intOf ii).toNat)
 case atStart => exact ⟨0, p0, 8, none, 0, [], Nat.zero_le _, HP0.out, Nat.le_refl _, he81, rfl, rfl, rfl, rfl, rfl, Lib.hid rfl, HI0, HX1⟩
 case round =>
  clear HX1 HI0 HP0
  obtain ⟨i, p, lo, A', c', rs, hiN, hp9, hlo8, hloe, rfl, rfl, rfl, rfl, rfl, HRL, HPF, HX⟩ := hrel
  by_cases hlt : i < N
  case neg =>
   have hd : decide ((i : Int) < (N : Int)) = false := decide_eq_false (by omega)
   have HEND : Hid (PF = some (rs.map PRec.p, p, lo)) := Lib.hid (by rw [HPF.out, show N - i = 0 from by omega]; show some (rs.map PRec.p ++ [], p, lo) = _; rw [List.append_nil])
   have HPE : Hid (pcsO x N end' = if p = n ∧ lo = end' then some (rs.map PRec.p) else none) := Lib.hid (by rw [HPO.out, HEND.out, ← HL.out]; rfl)
   by_cases g1 : p = n
   case neg =>
    have m4 : ((p : Int) == (n : Int)) = false := beq_eq_false_iff_ne.2 (by omega)
    have m5 : (p == n) = false := beq_eq_false_iff_ne.2 g1
    have HN0 : Hid (pcsO x N end' = none) := Lib.hid (by rw [HPE.out, if_neg (fun h => g1 h.1)])
    clear g1
    go_wp2_with fail
    go_ret2
    exact .inr ⟨HN0.out, ⟨_, _, _, rfl⟩, HX.out.up⟩
   have m4 : ((p : Int) == (n : Int)) = true := by rw [g1]; simp
   have m5 : (p == n) = true := by rw [g1]; simp
   by_cases g2 : lo = end'
   case neg =>
    have m6 : (((end' - lo : Nat) : Int) == 0) = false := beq_eq_false_iff_ne.2 (by omega)
    have m7 : (end' - lo == 0) = false := beq_eq_false_iff_ne.2 (by omega)
    have HN0 : Hid (pcsO x N end' = none) := Lib.hid (by rw [HPE.out, if_neg (fun h => g2 h.2)])
    clear g1 g2
    go_wp2_with fail
    go_ret2
    exact .inr ⟨HN0.out, ⟨_, _, _, rfl⟩, HX.out.up⟩
   have m6 : (((end' - lo : Nat) : Int) == 0) = true := beq_iff_eq.2 (by omega)
   have m7 : (end' - lo == 0) = true := beq_iff_eq.2 (by omega)
   have HN0 : Hid (pcsO x N end' = some (rs.map PRec.p)) := Lib.hid (by rw [HPE.out, if_pos ⟨g1, g2⟩])
   clear g1 g2
   go_wp2_with fail
   go_ret2
   exact .inl ⟨_, A', i, c', rs, HN0.out, rfl, rfl, HRL.out.symm, HX.out⟩
  have hd : decide ((i : Int) < (N : Int)) = true := decide_eq_true (by omega)
  obtain ⟨a, p1, e1, h1⟩ : ∃ a p1 e1, readBy x (p : Int) (x.length : Int) = (a, p1, e1) := ⟨_, _, _, rfl⟩
  obtain ⟨b, p2, e2, h2⟩ : ∃ b p2 e2, readBy x (p1 : Int) (x.length : Int) = (b, p2, e2) := ⟨_, _, _, rfl⟩
  obtain ⟨sz, p3, e3, h3⟩ : ∃ v p3 e3, readU x (p2 : Int) = (v, p3, e3) := ⟨_, _, _, rfl⟩
  have HPC := Lib.hid (pc1_by (at' := lo) (end' := end') (prev := lastB (rs.map PRec.p)) h1 h2 h3)
  have HPN : Hid (pc1 x p lo end' (lastB (rs.map PRec.p)) = none → pcsO x N end' = none) := Lib.hid fun h => by rw [HPO.out, HPF.out, show N - i = (N - (i + 1)) + 1 from by omega, pcsF_none h]; rfl
  obtain ⟨na, hna⟩ : ∃ z, z = a.length := ⟨_, rfl⟩
  obtain ⟨nb, hnb⟩ : ∃ z, z = b.length := ⟨_, rfl⟩
  have HNA := Lib.hid hna.symm
  have HNB := Lib.hid hnb.symm
  have hna9 : na ≤ 100000000 := by have h := readBy_le5 x p (x.length : Int); rw [h1, HL.out] at h; rw [hna]; exact Nat.le_trans h hn
  have hnb9 : nb ≤ 100000000 := by have h := readBy_le5 x p1 (x.length : Int); rw [h2, HL.out] at h; rw [hnb]; exact Nat.le_trans h hn
  have hp39 : p3 ≤ 1000000000 := by have h := readU_le x (p2 : Int); rw [h3, HL.out] at h; exact Nat.le_trans h (by omega)
  have hsz9 : sz ≤ 18446744073709551615 := by have h := readU_val x (p2 : Int); rw [h3] at h; exact Nat.le_of_lt_succ h
  rw [HL.out] at h1 h2
  have H1 := Lib.hid h1
  have H2 := Lib.hid h2
  have H3 := Lib.hid h3
  obtain ⟨ro, hro⟩ : ∃ z, z = end' - lo := ⟨_, rfl⟩
  have hroe : lo + ro = end' := by omega
  have hro9 : ro ≤ 100000000 := by omega
  rw [← hro] at HPC ⊢
  clear h1 h2 h3 hna hnb hro
  go_upto_region 11 with (first
   | (refine wl_alloc rfl rfl [.slice none 0 0, .slice none 0 0, .int .i64 0, .int .i64 0] (.inl (by kernel_rfl)) HX.out ?_; intro g13 y1 hz _; have HY1 : Hid (OW w (boxO g13 [.slice none 0 0, .slice none 0 0, .int .i64 0, .int .i64 0] :: rowO 137 4 (.slice A' i c') i (rs.flatMap PRec.cells) :: rs.flatMap PRec.obs) y1) := Lib.hid (hz.perm (fr_perm _ _)); clear hz HX)
   | (go_at_call 138; go_must (refine (rby_any x A n c _ _ _ (HS.out _ HY1.out.up) (by omega) (by omega)).mono ?_); rw [H1.out]; rintro e y2 hp; obtain ⟨Aa, ca, rfl, _, ho, hb⟩ := hp.at_ (n := na) (p' := (p1 : Int)) (k' := (e1 : Int)) HNA.out rfl rfl; have HY2 : Hid (OW w (boxO g13 [.slice none 0 0, .slice none 0 0, .int .i64 0, .int .i64 0] :: bytO 5 (Aa, ca, a) :: rowO 137 4 (.slice A' i c') i (rs.flatMap PRec.cells) :: rs.flatMap PRec.obs) y2) := Lib.hid ((HY1.out.app (OW.byt1 hb ho)).perm (idx_perm _ _ _)); clear hp ho hb HY1)
   | (refine wl_put1 rfl (.tmp 45) (.tmp 42) rfl HY2.out 0 rfl 0 rfl (by simp) (.slice Aa na ca) rfl (by kernel_rfl) rfl ?_; intro y3 hz _; have HY3 : Hid (OW w (boxO g13 [.slice Aa na ca, .slice none 0 0, .int .i64 0, .int .i64 0] :: bytO 5 (Aa, ca, a) :: rowO 137 4 (.slice A' i c') i (rs.flatMap PRec.cells) :: rs.flatMap PRec.obs) y3) := Lib.hid hz; clear hz HY2))
  by_cases g1 : e1 = 0
  case neg =>
   have m4 : ((e1 : Int) != 0) = true := bne_iff_ne.2 (by omega)
   have m5 : (e1 != 0) = true := bne_iff_ne.2 g1
   have HN0 : Hid (pcsO x N end' = none) := Lib.hid (HPN.out (by rw [HPC.out, if_pos g1]))
   clear g1
   go_wp2_with fail
   go_ret2
   exact .inr ⟨HN0.out, ⟨_, _, _, rfl⟩, HY3.out.up⟩
  have m4 : ((e1 : Int) != 0) = false := by rw [g1]; rfl
  have m5 : (e1 != 0) = false := by rw [g1]; rfl
  have HPC1 := Lib.hid (HPC.out.trans (if_neg fun h => h g1))
  clear g1 HPC
  go_upto_region 14 with (first
   | (go_at_call 138; go_must (refine (rby_any x A n c _ _ _ (HS.out _ HY3.out.up) (by omega) (by omega)).mono ?_); rw [H2.out]; rintro e y4 hp; obtain ⟨Ab, cb, rfl, _, ho, hb⟩ := hp.at_ (n := nb) (p' := (p2 : Int)) (k' := (e2 : Int)) HNB.out rfl rfl; have HY4 : Hid (OW w (boxO g13 [.slice Aa na ca, .slice none 0 0, .int .i64 0, .int .i64 0] :: bytO 5 (Aa, ca, a) :: bytO 5 (Ab, cb, b) :: rowO 137 4 (.slice A' i c') i (rs.flatMap PRec.cells) :: rs.flatMap PRec.obs) y4) := Lib.hid ((HY3.out.app (OW.byt1 hb ho)).perm (idx_perm2 _ _ _ _)); clear hp ho hb HY3)
   | (refine wl_put1 rfl (.tmp 57) (.tmp 54) rfl HY4.out 0 rfl 1 rfl (by simp) (.slice Ab nb cb) rfl (by kernel_rfl) rfl ?_; intro y5 hz _; have HY5 : Hid (OW w (boxO g13 [.slice Aa na ca, .slice Ab nb cb, .int .i64 0, .int .i64 0] :: bytO 5 (Aa, ca, a) :: bytO 5 (Ab, cb, b) :: rowO 137 4 (.slice A' i c') i (rs.flatMap PRec.cells) :: rs.flatMap PRec.obs) y5) := Lib.hid hz; clear hz HY4))
  by_cases g2 : e2 = 0
  case neg =>
   have m6 : ((e2 : Int) != 0) = true := bne_iff_ne.2 (by omega)
   have m7 : (e2 != 0) = true := bne_iff_ne.2 g2
   have HN0 : Hid (pcsO x N end' = none) := Lib.hid (HPN.out (by rw [HPC1.out, if_pos g2]))
   clear g2
   go_wp2_with fail
   go_ret2
   exact .inr ⟨HN0.out, ⟨_, _, _, rfl⟩, HY5.out.up⟩
  have m6 : ((e2 : Int) != 0) = false := by rw [g2]; rfl
  have m7 : (e2 != 0) = false := by rw [g2]; rfl
  have HPC2 := Lib.hid (HPC1.out.trans (if_neg fun h => h g2))
  clear g2 HPC1
  go_upto_region 17 with (go_at_call 137; go_must (refine (ru_any x A n c _ _ (by omega) (HS.out _ HY5.out.up).rb).mono ?_); rw [H3.out]; rintro e y6 ⟨rfl, rfl⟩)
  have hzr := u64_of ro (by omega)
  by_cases g3 : e3 = 0
  case neg =>
   have m8 : ((e3 : Int) != 0) = true := bne_iff_ne.2 (by omega)
   have m9 : (e3 != 0) = true := bne_iff_ne.2 g3
   have HN0 : Hid (pcsO x N end' = none) := Lib.hid (HPN.out (by rw [HPC2.out, if_pos g3]))
   clear g3
   go_wp2_with fail
   go_ret2
   exact .inr ⟨HN0.out, ⟨_, _, _, rfl⟩, HY5.out.up⟩
  have m8 : ((e3 : Int) != 0) = false := by rw [g3]; rfl
  have m9 : (e3 != 0) = false := by rw [g3]; rfl
  have HPC3 := Lib.hid (HPC2.out.trans (if_neg fun h => h g3))
  clear g3 HPC2
  by_cases g4 : sz = 0
  case pos =>
   have ma : ((sz : Int) == 0) = true := by rw [g4]; rfl
   have mb : (sz == 0) = true := by rw [g4]; rfl
   have HN0 : Hid (pcsO x N end' = none) := Lib.hid (HPN.out (by rw [HPC3.out, if_pos (.inl g4)]))
   clear g4
   go_wp2_with fail
   go_ret2
   exact .inr ⟨HN0.out, ⟨_, _, _, rfl⟩, HY5.out.up⟩
  have ma : ((sz : Int) == 0) = false := beq_eq_false_iff_ne.2 (by omega)
  have mb : (sz == 0) = false := beq_eq_false_iff_ne.2 g4
  by_cases g5 : ro < sz
  case pos =>
   have mc : decide ((sz : Int) > (ro : Int)) = true := decide_eq_true (by omega)
   have md : decide (ro < sz) = true := decide_eq_true g5
   have me : decide ((ro : Int) < (sz : Int)) = true := decide_eq_true (by omega)
   have HN0 : Hid (pcsO x N end' = none) := Lib.hid (HPN.out (by rw [HPC3.out, if_pos (.inr g5)]))
   clear g4 g5
   go_wp2_with fail
   go_ret2
   exact .inr ⟨HN0.out, ⟨_, _, _, rfl⟩, HY5.out.up⟩
  have mc : decide ((sz : Int) > (ro : Int)) = false := decide_eq_false (by omega)
  have md : decide (ro < sz) = false := decide_eq_false g5
  have me : decide ((ro : Int) < (sz : Int)) = false := decide_eq_false (by omega)
  have HPC4 := Lib.hid (HPC3.out.trans (if_neg (by rintro (h | h); exact g4 h; exact g5 h)))
  have hszr : sz ≤ ro := by omega
  clear g4 g5 HPC3
  obtain ⟨ea, ka, hka⟩ : ∃ ea ka, ParseKeyE a = (ea, ka) := ⟨_, _, rfl⟩
  obtain ⟨eb, kb, hkb⟩ : ∃ eb kb, ParseKeyE b = (eb, kb) := ⟨_, _, rfl⟩
  have HKA := Lib.hid hka
  have HKB := Lib.hid hkb
  obtain ⟨cv, hcv⟩ : ∃ z, z = cmpB a b := ⟨_, rfl⟩
  have HCV := Lib.hid hcv.symm
  have HPC5 : Hid (pc1 x p lo end' (lastB (rs.map PRec.p)) = if ka ≠ 0 ∨ kb ≠ 0 ∨ 0 < cv then none else if behR (lastB (rs.map PRec.p)) a = true then none else some (⟨a, b, lo, lo + sz⟩, p3)) := Lib.hid (by rw [HPC4.out, hka, hkb, hcv])
  clear hka hkb hcv HPC4
  have tk1 : True := trivial
  go_upto_region 21 with (first
   | (refine wpList_load_cell rfl 34 (.tmp 80) rfl rfl (HY5.out.cell (i := 0) (j := 0) rfl rfl) (fun w => Tryz.isAgg34 w) ?_)
   | (go_at_call 92; (have _t := tk1); go_must (refine (parsekey_any a Aa na ca _ (HY5.out.sl (i := 1) rfl HNA.out) (by omega)).mono ?_); rw [HKA.out]; rintro e z1 ⟨Ax, cx, Bx, dx, Dx, qx, rfl, _, hb⟩; have HZ1 := Lib.hid (HY5.out.later hb); clear hb HY5 tk1 _t)
   | (refine wl_alloc rfl rfl [.slice none 0 0, .int .i64 0, .slice none 0 0, .int .i64 0, .int .i64 0, .int .i64 0, .slice none 0 0] (.inl (by kernel_rfl)) HZ1.out ?_; intro g15 z2 hz _; have HZ2 : Hid (OW w (boxO g15 [.slice none 0 0, .int .i64 0, .slice none 0 0, .int .i64 0, .int .i64 0, .int .i64 0, .slice none 0 0] :: boxO g13 [.slice Aa na ca, .slice Ab nb cb, .int .i64 0, .int .i64 0] :: bytO 5 (Aa, ca, a) :: bytO 5 (Ab, cb, b) :: rowO 137 4 (.slice A' i c') i (rs.flatMap PRec.cells) :: rs.flatMap PRec.obs) z2) := Lib.hid (hz.perm (fr_perm _ _)); clear hz HZ1)
   | (refine wl_put rfl (.tmp 15) (.tmp 83) rfl HZ2.out 0 rfl rfl [.slice Ax ea.row.length cx, .int .i64 ea.fam, .slice Bx ea.qual.length dx, .int .i64 ea.ts, .int .i64 ea.seq, .int .i64 ea.kind, .slice Dx ea.val.length qx] rfl rfl (by kernel_rfl) (by simp [Value.oneCell']) ?_; intro z3 hz _; have HZ3 : Hid (OW w (boxO g13 [.slice Aa na ca, .slice Ab nb cb, .int .i64 0, .int .i64 0] :: bytO 5 (Aa, ca, a) :: bytO 5 (Ab, cb, b) :: rowO 137 4 (.slice A' i c') i (rs.flatMap PRec.cells) :: rs.flatMap PRec.obs) z3) := Lib.hid (OW.erase hz 0); clear hz HZ2)
   | (refine wpList_load_cell rfl 34 (.tmp 86) rfl rfl (HZ3.out.cell (i := 0) (j := 1) rfl rfl) (fun w => Tryz.isAgg34 w) ?_)
   | (go_at_call 92; go_must (refine (parsekey_any b Ab nb cb _ (HZ3.out.sl (i := 2) rfl HNB.out) (by omega)).mono ?_); rw [HKB.out]; rintro e z4 ⟨Ay, cy, By, dy, Dy, qy, rfl, _, hb⟩; have HZ4 := Lib.hid (HZ3.out.later hb); clear hb HZ3)
   | (refine wl_alloc rfl rfl [.slice none 0 0, .int .i64 0, .slice none 0 0, .int .i64 0, .int .i64 0, .int .i64 0, .slice none 0 0] (.inl (by kernel_rfl)) HZ4.out ?_; intro g17 z5 hz _; have HZ5 : Hid (OW w (boxO g17 [.slice none 0 0, .int .i64 0, .slice none 0 0, .int .i64 0, .int .i64 0, .int .i64 0, .slice none 0 0] :: boxO g13 [.slice Aa na ca, .slice Ab nb cb, .int .i64 0, .int .i64 0] :: bytO 5 (Aa, ca, a) :: bytO 5 (Ab, cb, b) :: rowO 137 4 (.slice A' i c') i (rs.flatMap PRec.cells) :: rs.flatMap PRec.obs) z5) := Lib.hid (hz.perm (fr_perm _ _)); clear hz HZ4)
   | (refine wl_put rfl (.tmp 17) (.tmp 89) rfl HZ5.out 0 rfl rfl [.slice Ay eb.row.length cy, .int .i64 eb.fam, .slice By eb.qual.length dy, .int .i64 eb.ts, .int .i64 eb.seq, .int .i64 eb.kind, .slice Dy eb.val.length qy] rfl rfl (by kernel_rfl) (by simp [Value.oneCell']) ?_; intro z6 hz _; have HZ6 : Hid (OW w (boxO g13 [.slice Aa na ca, .slice Ab nb cb, .int .i64 0, .int .i64 0] :: bytO 5 (Aa, ca, a) :: bytO 5 (Ab, cb, b) :: rowO 137 4 (.slice A' i c') i (rs.flatMap PRec.cells) :: rs.flatMap PRec.obs) z6) := Lib.hid (OW.erase hz 0); clear hz HZ5))
  by_cases g6 : ka = 0
  case neg =>
   have n0 : (ka != 0) = true := bne_iff_ne.2 g6
   have HN0 : Hid (pcsO x N end' = none) := Lib.hid (HPN.out (by rw [HPC5.out, if_pos (.inl g6)]))
   clear g6
   go_wp2_with fail
   go_ret2
   exact .inr ⟨HN0.out, ⟨_, _, _, rfl⟩, HZ6.out.up⟩
  have n0 : (ka != 0) = false := by rw [g6]; rfl
  by_cases g7 : kb = 0
  case neg =>
   have n1 : (kb != 0) = true := bne_iff_ne.2 g7
   have HN0 : Hid (pcsO x N end' = none) := Lib.hid (HPN.out (by rw [HPC5.out, if_pos (.inr (.inl g7))]))
   clear g6 g7
   go_wp2_with fail
   go_ret2
   exact .inr ⟨HN0.out, ⟨_, _, _, rfl⟩, HZ6.out.up⟩
  have n1 : (kb != 0) = false := by rw [g7]; rfl
  by_cases g8 : 0 < cv
  case pos =>
   have n2 : decide (cv > 0) = true := decide_eq_true g8
   have n3 : decide (0 < cv) = true := decide_eq_true g8
   have HN0 : Hid (pcsO x N end' = none) := Lib.hid (HPN.out (by rw [HPC5.out, if_pos (.inr (.inr g8))]))
   clear g6 g7 g8
   go_wp2_with (first
    | (refine wpList_load_cell rfl 34 (.tmp 98) rfl rfl (HZ6.out.cell (i := 0) (j := 0) rfl rfl) (fun w => Tryz.isAgg34 w) ?_)
    | (refine wpList_load_cell rfl 34 (.tmp 100) rfl rfl (HZ6.out.cell (i := 0) (j := 1) rfl rfl) (fun w => Tryz.isAgg34 w) ?_)
    | (go_at_call 94; go_must (refine (bcmp_any a b Aa Ab na ca nb cb _ (HZ6.out.sl (i := 1) rfl HNA.out).rb (HZ6.out.sl (i := 2) rfl HNB.out).rb).mono ?_); rw [HCV.out]; rintro e z7 ⟨rfl, rfl⟩))
   go_ret2
   exact .inr ⟨HN0.out, ⟨_, _, _, rfl⟩, HZ6.out.up⟩
  have n2 : decide (cv > 0) = false := decide_eq_false (by omega)
  have n3 : decide (0 < cv) = false := decide_eq_false g8
  have HPC6 := Lib.hid (HPC5.out.trans (if_neg (by rintro (h | h | h); exact h g6; exact h g7; exact g8 h)))
  clear g6 g7 g8 HPC5
  go_upto_region 23 with (first
   | (refine wpList_load_cell rfl 34 (.tmp 98) rfl rfl (HZ6.out.cell (i := 0) (j := 0) rfl rfl) (fun w => Tryz.isAgg34 w) ?_)
   | (refine wpList_load_cell rfl 34 (.tmp 100) rfl rfl (HZ6.out.cell (i := 0) (j := 1) rfl rfl) (fun w => Tryz.isAgg34 w) ?_)
   | (go_at_call 94; go_must (refine (bcmp_any a b Aa Ab na ca nb cb _ (HZ6.out.sl (i := 1) rfl HNA.out).rb (HZ6.out.sl (i := 2) rfl HNB.out).rb).mono ?_); rw [HCV.out]; rintro e z7 ⟨rfl, rfl⟩))
  have s1 : IntKind.i64.wrap (sz : Int) = (sz : Int) := i64_sum (by omega) (by omega)
  have s2 : IntKind.i64.wrap ((lo : Int) + (sz : Int)) = (lo : Int) + (sz : Int) := i64_sum (by omega) (by omega)
  have s3 : IntKind.i64.wrap ((ro : Int) - (sz : Int)) = (ro : Int) - (sz : Int) := i64_sum (by omega) (by omega)
  by_cases hi0 : i = 0
  case pos =>
   have HRS : Hid (rs = []) := Lib.hid (List.eq_nil_of_length_eq_zero (by rw [HRL.out]; exact hi0))
   have HPC7 : Hid (pc1 x p lo end' (lastB (rs.map PRec.p)) = some (⟨a, b, lo, lo + sz⟩, p3)) := Lib.hid (by rw [HPC6.out, HRS.out]; exact if_neg (by intro h; cases h))
   have dI : decide ((i : Int) > 0) = false := decide_eq_false (by omega)
   have i9 : ¬ 0 < i := by omega
   have dI2 : decide (0 < i) = false := decide_eq_false i9
   clear hi0 HPC6
   refine lt_start [] (by kernel_rfl) ?_
   intro xd hd
   refine ⟨fun z => OW w (boxO g13 [.slice Aa na ca, .slice Ab nb cb, .int .i64 0, .int .i64 0] :: bytO 5 (Aa, ca, a) :: bytO 5 (Ab, cb, b) :: rowO 137 4 (.slice A' i c') i (rs.flatMap PRec.cells) :: rs.flatMap PRec.obs) z, ?_⟩
   have HS := Lib.hid (HZ6.out.later hd)
   refine lp 0 rfl (v := ?_) (fun w => ?_) (fun _ => HS.out) ?_
   rotate_left
   ·first | (go_simp; done) | (go_simp; with_reducible rfl)
   simp only [Act.put, ls1, ls2, ls3]
   refine lp 1 rfl (v := ?_) (fun w => ?_) (fun _ => HS.out) ?_
   rotate_left
   ·first | (go_simp; done) | (go_simp; with_reducible rfl)
   simp only [Act.put, ls1, ls2, ls3]
   refine lp 2 rfl (v := ?_) (fun w => ?_) (fun _ => HS.out) ?_
   rotate_left
   ·first | (go_simp; done) | (go_simp; with_reducible rfl)
   simp only [Act.put, ls1, ls2, ls3]
   refine lp 3 rfl (v := ?_) (fun w => ?_) (fun _ => HS.out) ?_
   rotate_left
   ·first | (go_simp; done) | (go_simp; with_reducible rfl)
   simp only [Act.put, ls1, ls2, ls3]
   refine lk 4 rfl (fun _ => HS.out) ?_
   simp only [Act.put, ls1, ls2, ls3]
   refine lk 5 rfl (fun _ => HS.out) ?_
   simp only [Act.put, ls1, ls2, ls3]
   refine lk 6 rfl (fun _ => HS.out) ?_
   simp only [Act.put, ls1, ls2, ls3]
   refine lk 7 rfl (fun _ => HS.out) ?_
   simp only [Act.put, ls1, ls2, ls3]
   refine lk 8 rfl (fun _ => HS.out) ?_
   simp only [Act.put, ls1, ls2, ls3]
   refine lk 9 rfl (fun _ => HS.out) ?_
   simp only [Act.put, ls1, ls2, ls3]
   refine lk 10 rfl (fun _ => HS.out) ?_
   simp only [Act.put, ls1, ls2, ls3]
   refine lk 11 rfl (fun _ => HS.out) ?_
   simp only [Act.put, ls1, ls2, ls3]
   refine lk 12 rfl (fun _ => HS.out) ?_
   simp only [Act.put, ls1, ls2, ls3]
   refine lk 13 rfl (fun _ => HS.out) ?_
   simp only [Act.put, ls1, ls2, ls3]
   refine lk 14 rfl (fun _ => HS.out) ?_
   simp only [Act.put, ls1, ls2, ls3]
   refine lp 15 rfl (v := ?_) (fun w => ?_) (fun _ => HS.out) ?_
   rotate_left
   ·first | (go_simp; done) | (go_simp; with_reducible rfl)
   simp only [Act.put, ls1, ls2, ls3]
   refine lt_done (by kernel_rfl) ?_
   replace HZ6 := Lib.hid HS.out
   clear HS
   go_wp2_with (first
    | (refine wl_put1 rfl (.tmp 126) (.tmp 121) rfl HZ6.out 0 rfl 2 rfl (by simp) (.int .i64 (lo : Nat)) rfl (by kernel_rfl) rfl ?_; intro u1 hz _; have HU1 : Hid (OW w (boxO g13 [.slice Aa na ca, .slice Ab nb cb, .int .i64 lo, .int .i64 0] :: bytO 5 (Aa, ca, a) :: bytO 5 (Ab, cb, b) :: rowO 137 4 (.slice A' i c') i (rs.flatMap PRec.cells) :: rs.flatMap PRec.obs) u1) := Lib.hid hz; clear hz HZ6)
    | (refine wl_put1 rfl (.tmp 127) (.tmp 125) rfl HU1.out 0 rfl 3 rfl (by simp) (.int .i64 ((lo : Int) + (sz : Int))) rfl (by kernel_rfl) rfl ?_; intro u2 hz _; have HU2 : Hid (OW w (boxO g13 [.slice Aa na ca, .slice Ab nb cb, .int .i64 lo, .int .i64 (lo + sz : Nat)] :: bytO 5 (Aa, ca, a) :: bytO 5 (Ab, cb, b) :: rowO 137 4 (.slice A' i c') i (rs.flatMap PRec.cells) :: rs.flatMap PRec.obs) u2) := Lib.hid hz; clear hz HU1)
    | (refine wpList_load_cell rfl 3 (.tmp 128) rfl rfl (HU2.out.cell (i := 0) (j := 3) rfl rfl) (fun w => Tryz.isAgg3 w) ?_)
    | (refine wl_rowR rfl 137 (.tmp 13) rfl rfl (HU2.out.range (i := 0) rfl) part_row ?_)
    | (refine wl_build rfl #[(0, .tmp 135)] rfl #[.slice Aa na ca, .slice Ab nb cb, .int .i64 lo, .int .i64 (lo + sz : Nat)] Tryz.partS (.agg #[.slice none 0 0, .slice none 0 0, .int .i64 0, .int .i64 0]) (by kernel_rfl) (by decide) (by decide) (by decide) rfl (by kernel_rfl) HU2.out ?_; intro g9 u3 hz _; have HU3 : Hid (OW w (rowO 137 4 (.slice (some ⟨g9, 0, none⟩) 1 1) 1 [.slice Aa na ca, .slice Ab nb cb, .int .i64 lo, .int .i64 (lo + sz : Nat)] :: boxO g13 [.slice Aa na ca, .slice Ab nb cb, .int .i64 lo, .int .i64 (lo + sz : Nat)] :: bytO 5 (Aa, ca, a) :: bytO 5 (Ab, cb, b) :: rowO 137 4 (.slice A' i c') i (rs.flatMap PRec.cells) :: rs.flatMap PRec.obs) u3) := Lib.hid (hz.perm (fr_perm _ _)); clear hz HU2)
    | (at_builtin; go_must (refine wl_append rfl (.tmp 134) (.tmp 136) rfl Tryz.partS HU3.out 4 rfl rfl _ (some ⟨g9, 0, none⟩) 1 1 [.slice Aa na ca, .slice Ab nb cb, .int .i64 lo, .int .i64 (lo + sz : Nat)] rfl (Reads.own (HU3.out.row (i := 0) rfl)) (by simp [Value.oneCell']) (by unfold maxLen; omega) (by omega) ?_); intro A9 c9 u4 hz _; have HU4 := Lib.hid hz; clear hz HU3))
   have HFIN : Hid (OW w (rowO 137 4 (.slice A9 (i + 1) c9) (i + 1) ((rs ++ [(⟨Aa, ca, Ab, cb, ⟨a, b, lo, lo + sz⟩⟩ : PRec)]).flatMap PRec.cells) :: (rs ++ [(⟨Aa, ca, Ab, cb, ⟨a, b, lo, lo + sz⟩⟩ : PRec)]).flatMap PRec.obs) u4) := Lib.hid (by
    have h := (HU4.out.perm (idx_fin _ _ _ _ _ _)).left
    rw [pcells_snoc, pobs_snoc]
    show OW w (rowO 137 4 (.slice A9 (i + 1) c9) (i + 1) (rs.flatMap PRec.cells ++ [.slice Aa a.length ca, .slice Ab b.length cb, .int .i64 lo, .int .i64 (lo + sz : Nat)]) :: (rs.flatMap PRec.obs ++ [bytO 5 (Aa, ca, a), bytO 5 (Ab, cb, b)])) u4
    rw [HNA.out, HNB.out]
    exact h)
   have HPF2 : Hid (PF = pcsG ((rs ++ [(⟨Aa, ca, Ab, cb, ⟨a, b, lo, lo + sz⟩⟩ : PRec)]).map PRec.p) (pcsF x end' (N - (i + 1)) p3 (lo + sz) (lastB ((rs ++ [(⟨Aa, ca, Ab, cb, ⟨a, b, lo, lo + sz⟩⟩ : PRec)]).map PRec.p)))) := Lib.hid (by
    rw [HPF.out, show N - i = (N - (i + 1)) + 1 from by omega, pcsF_some HPC7.out, lastB_snoc, List.map_append]; rfl)
   have HRL2 : Hid ((rs ++ [(⟨Aa, ca, Ab, cb, ⟨a, b, lo, lo + sz⟩⟩ : PRec)]).length = i + 1) := Lib.hid (by rw [List.length_append, HRL.out]; rfl)
   go_roundw
   case rel => exact ⟨i + 1, p3, lo + sz, A9, c9, rs ++ [(⟨Aa, ca, Ab, cb, ⟨a, b, lo, lo + sz⟩⟩ : PRec)], by omega, hp39, by omega, by omega, by go_num, rfl, by go_num, by go_num, by go_num, HRL2, HPF2, HFIN⟩
   case measure => simp [intOf]; omega
  have i9 : 0 < i := by omega
  have i1 : (1 : Int) ≤ (i : Int) := by omega
  have dI : decide ((i : Int) > 0) = true := decide_eq_true (by omega)
  have dI2 : decide (0 < i) = true := decide_eq_true i9
  have s4 : IntKind.i64.wrap ((i : Int) - 1) = (i : Int) - 1 := i64_sum (by omega) (by omega)
  have i2 : ((i : Int) - 1).toNat = i - 1 := by omega
  have i3 : (0 : Int) ≤ (i : Int) - 1 := by omega
  have i4 : (i : Int) - 1 < (i : Int) := by omega
  obtain ⟨r, hr⟩ : ∃ r, rs[i - 1]? = some r := ⟨_, List.getElem?_eq_getElem (by have := HRL.out; omega)⟩
  have HR := Lib.hid hr
  have HLB : Hid (lastB (rs.map PRec.p) = some r.p.b) := Lib.hid (by unfold lastB; rw [List.getLast?_eq_getElem?, List.length_map, HRL.out, List.getElem?_map, hr]; rfl)
  obtain ⟨gm, mcap, hv, _⟩ := own_form (HZ6.out.row (i := 3) rfl) i9
  injection hv with hv _ hcp
  subst hv hcp
  obtain ⟨cw, hcw⟩ : ∃ z, z = cmpB r.p.b a := ⟨_, rfl⟩
  have HCW := Lib.hid hcw.symm
  have HPC8 : Hid (pc1 x p lo end' (lastB (rs.map PRec.p)) = if 0 ≤ cw then none else some (⟨a, b, lo, lo + sz⟩, p3)) := Lib.hid (by rw [HPC6.out, HLB.out, hcw]; show (if decide (0 ≤ cmpB r.p.b a) = true then _ else _) = _; simp only [decide_eq_true_eq])
  have HRM : Hid (bytO 5 (r.B, r.d, r.p.b) ∈ rs.flatMap PRec.obs) := Lib.hid (List.mem_flatMap.2 ⟨r, List.mem_of_getElem? hr, .tail _ (.head _)⟩)
  clear hr hcw HPC6
  refine lt_start [] (by kernel_rfl) ?_
  intro xd hd
  refine ⟨fun z => OW w (boxO g13 [.slice Aa na ca, .slice Ab nb cb, .int .i64 0, .int .i64 0] :: bytO 5 (Aa, ca, a) :: bytO 5 (Ab, cb, b) :: rowO 137 4 (.slice (some ⟨gm, 0, none⟩) i c') i (rs.flatMap PRec.cells) :: rs.flatMap PRec.obs) z, ?_⟩
  have HS := Lib.hid (HZ6.out.later hd)
  refine lp 0 rfl (v := ?_) (fun w => ?_) (fun _ => HS.out) ?_
  rotate_left
  ·first | (go_simp; done) | (go_simp; with_reducible rfl)
  simp only [Act.put, ls1, ls2, ls3]
  refine lp 1 rfl (v := ?_) (fun w => ?_) (fun _ => HS.out) ?_
  rotate_left
  ·first | (go_simp; done) | (go_simp; with_reducible rfl)
  simp only [Act.put, ls1, ls2, ls3]
  refine lp 2 rfl (v := ?_) (fun w => ?_) (fun _ => HS.out) ?_
  rotate_left
  ·first | (go_simp; done) | (go_simp; with_reducible rfl)
  simp only [Act.put, ls1, ls2, ls3]
  refine lp 3 rfl (v := ?_) (fun w => ?_) (fun _ => HS.out) ?_
  rotate_left
  ·first | (go_simp; done) | (go_simp; with_reducible rfl)
  simp only [Act.put, ls1, ls2, ls3]
  refine lp 4 rfl (v := ?_) (fun w => ?_) (fun _ => HS.out) ?_
  rotate_left
  ·first | (go_simp; done) | (go_simp; with_reducible rfl)
  simp only [Act.put, ls1, ls2, ls3]
  refine lp 5 rfl (v := ?_) (fun w => ?_) (fun _ => HS.out) ?_
  rotate_left
  ·first | (go_simp; done) | (go_simp; with_reducible rfl)
  simp only [Act.put, ls1, ls2, ls3]
  refine lp 6 rfl (v := ?_) (fun w => ?_) (fun _ => HS.out) ?_
  rotate_left
  ·first | (go_simp; done) | (go_simp; with_reducible rfl)
  simp only [Act.put, ls1, ls2, ls3]
  refine lp 7 rfl (v := ?_) (fun w => ?_) (fun _ => HS.out) ?_
  rotate_left
  ·first | (go_simp; done) | (go_simp; with_reducible rfl)
  simp only [Act.put, ls1, ls2, ls3]
  refine lp 8 rfl (v := ?_) (fun w => ?_) (fun _ => HS.out) ?_
  rotate_left
  ·first | (go_simp; done) | (go_simp; with_reducible rfl)
  simp only [Act.put, ls1, ls2, ls3]
  refine lp 9 rfl (v := ?_) (fun w => ?_) (fun _ => HS.out) ?_
  rotate_left
  ·first | (go_simp; done) | (go_simp; with_reducible rfl)
  simp only [Act.put, ls1, ls2, ls3]
  refine lq 10 [13, 14, 15] rfl (yi_cell rfl rfl rfl (fun w hS => prow_cell (j := 1) hS (.tail _ (.tail _ (.tail _ (.head _)))) HR.out rfl) (fun w => Tryz.isAgg34 w)) HS.out ?_
  simp only [Act.put, ls1, ls2, ls3]
  refine lp 11 rfl (v := ?_) (fun w => ?_) (fun _ => HS.out) ?_
  rotate_left
  ·first | (go_simp; done) | (go_simp; with_reducible rfl)
  simp only [Act.put, ls1, ls2, ls3]
  refine lq 12 [13, 14, 15] rfl (yi_cell rfl rfl rfl (fun w hS => OW.cell hS (i := 0) (j := 0) rfl rfl) (fun w => Tryz.isAgg34 w)) HS.out ?_
  simp only [Act.put, ls1, ls2, ls3]
  refine lt_call 13 rfl (by kernel_rfl) rfl rfl ⟨_, Tryz.func94, by decide, by kernel_rfl⟩ [.slice r.B r.p.b.length r.d, .slice Aa na ca] rfl ?_
  refine (bcmp_any r.p.b a r.B Aa _ r.d na ca _ (HS.out.slm (.tail _ (.tail _ (.tail _ (.tail _ HRM.out)))) rfl).rb (HS.out.sl (i := 1) rfl HNA.out).rb).mono ?_
  rw [HCW.out]
  rintro rr z9 ⟨rfl, rfl⟩
  refine ⟨_, rfl, fun _ => HS.out, ?_⟩
  simp only [Act.put, ls1, ls2, ls3]
  refine lp 14 rfl (v := ?_) (fun w => ?_) (fun _ => HS.out) ?_
  rotate_left
  ·first | (go_simp; done) | (go_simp; with_reducible rfl)
  simp only [Act.put, ls1, ls2, ls3]
  refine lp 15 rfl (v := ?_) (fun w => ?_) (fun _ => HS.out) ?_
  rotate_left
  ·first | (go_simp; done) | (go_simp; with_reducible rfl)
  simp only [Act.put, ls1, ls2, ls3]
  refine lt_done (by kernel_rfl) ?_
  replace HZ6 := Lib.hid HS.out
  clear HS
  by_cases hcw : 0 ≤ cw
  case pos =>
   have d5 : decide (cw ≥ 0) = true := decide_eq_true hcw
   have d6 : decide (0 ≤ cw) = true := decide_eq_true hcw
   have HN0 : Hid (pcsO x N end' = none) := Lib.hid (HPN.out (by rw [HPC8.out, if_pos hcw]))
   go_wp2_with fail
   go_ret2
   exact .inr ⟨HN0.out, ⟨_, _, _, rfl⟩, HZ6.out.up⟩
  have d5 : decide (cw ≥ 0) = false := decide_eq_false (by omega)
  have d6 : decide (0 ≤ cw) = false := decide_eq_false hcw
  have HPC7 : Hid (pc1 x p lo end' (lastB (rs.map PRec.p)) = some (⟨a, b, lo, lo + sz⟩, p3)) := Lib.hid (HPC8.out.trans (if_neg hcw))
  go_wp2_with (first
   | (refine wl_put1 rfl (.tmp 126) (.tmp 121) rfl HZ6.out 0 rfl 2 rfl (by simp) (.int .i64 (lo : Nat)) rfl (by kernel_rfl) rfl ?_; intro u1 hz _; have HU1 : Hid (OW w (boxO g13 [.slice Aa na ca, .slice Ab nb cb, .int .i64 lo, .int .i64 0] :: bytO 5 (Aa, ca, a) :: bytO 5 (Ab, cb, b) :: rowO 137 4 (.slice (some ⟨gm, 0, none⟩) i c') i (rs.flatMap PRec.cells) :: rs.flatMap PRec.obs) u1) := Lib.hid hz; clear hz HZ6)
   | (refine wl_put1 rfl (.tmp 127) (.tmp 125) rfl HU1.out 0 rfl 3 rfl (by simp) (.int .i64 ((lo : Int) + (sz : Int))) rfl (by kernel_rfl) rfl ?_; intro u2 hz _; have HU2 : Hid (OW w (boxO g13 [.slice Aa na ca, .slice Ab nb cb, .int .i64 lo, .int .i64 (lo + sz : Nat)] :: bytO 5 (Aa, ca, a) :: bytO 5 (Ab, cb, b) :: rowO 137 4 (.slice (some ⟨gm, 0, none⟩) i c') i (rs.flatMap PRec.cells) :: rs.flatMap PRec.obs) u2) := Lib.hid hz; clear hz HU1)
   | (refine wpList_load_cell rfl 3 (.tmp 128) rfl rfl (HU2.out.cell (i := 0) (j := 3) rfl rfl) (fun w => Tryz.isAgg3 w) ?_)
   | (refine wl_rowR rfl 137 (.tmp 13) rfl rfl (HU2.out.range (i := 0) rfl) part_row ?_)
   | (refine wl_build rfl #[(0, .tmp 135)] rfl #[.slice Aa na ca, .slice Ab nb cb, .int .i64 lo, .int .i64 (lo + sz : Nat)] Tryz.partS (.agg #[.slice none 0 0, .slice none 0 0, .int .i64 0, .int .i64 0]) (by kernel_rfl) (by decide) (by decide) (by decide) rfl (by kernel_rfl) HU2.out ?_; intro g9 u3 hz _; have HU3 : Hid (OW w (rowO 137 4 (.slice (some ⟨g9, 0, none⟩) 1 1) 1 [.slice Aa na ca, .slice Ab nb cb, .int .i64 lo, .int .i64 (lo + sz : Nat)] :: boxO g13 [.slice Aa na ca, .slice Ab nb cb, .int .i64 lo, .int .i64 (lo + sz : Nat)] :: bytO 5 (Aa, ca, a) :: bytO 5 (Ab, cb, b) :: rowO 137 4 (.slice (some ⟨gm, 0, none⟩) i c') i (rs.flatMap PRec.cells) :: rs.flatMap PRec.obs) u3) := Lib.hid (hz.perm (fr_perm _ _)); clear hz HU2)
   | (at_builtin; go_must (refine wl_append rfl (.tmp 134) (.tmp 136) rfl Tryz.partS HU3.out 4 rfl rfl _ (some ⟨g9, 0, none⟩) 1 1 [.slice Aa na ca, .slice Ab nb cb, .int .i64 lo, .int .i64 (lo + sz : Nat)] rfl (Reads.own (HU3.out.row (i := 0) rfl)) (by simp [Value.oneCell']) (by unfold maxLen; omega) (by omega) ?_); intro A9 c9 u4 hz _; have HU4 := Lib.hid hz; clear hz HU3))
  have HFIN : Hid (OW w (rowO 137 4 (.slice A9 (i + 1) c9) (i + 1) ((rs ++ [(⟨Aa, ca, Ab, cb, ⟨a, b, lo, lo + sz⟩⟩ : PRec)]).flatMap PRec.cells) :: (rs ++ [(⟨Aa, ca, Ab, cb, ⟨a, b, lo, lo + sz⟩⟩ : PRec)]).flatMap PRec.obs) u4) := Lib.hid (by
   have h := (HU4.out.perm (idx_fin _ _ _ _ _ _)).left
   rw [pcells_snoc, pobs_snoc]
   show OW w (rowO 137 4 (.slice A9 (i + 1) c9) (i + 1) (rs.flatMap PRec.cells ++ [.slice Aa a.length ca, .slice Ab b.length cb, .int .i64 lo, .int .i64 (lo + sz : Nat)]) :: (rs.flatMap PRec.obs ++ [bytO 5 (Aa, ca, a), bytO 5 (Ab, cb, b)])) u4
   rw [HNA.out, HNB.out]
   exact h)
  have HPF2 : Hid (PF = pcsG ((rs ++ [(⟨Aa, ca, Ab, cb, ⟨a, b, lo, lo + sz⟩⟩ : PRec)]).map PRec.p) (pcsF x end' (N - (i + 1)) p3 (lo + sz) (lastB ((rs ++ [(⟨Aa, ca, Ab, cb, ⟨a, b, lo, lo + sz⟩⟩ : PRec)]).map PRec.p)))) := Lib.hid (by
   rw [HPF.out, show N - i = (N - (i + 1)) + 1 from by omega, pcsF_some HPC7.out, lastB_snoc, List.map_append]; rfl)
  have HRL2 : Hid ((rs ++ [(⟨Aa, ca, Ab, cb, ⟨a, b, lo, lo + sz⟩⟩ : PRec)]).length = i + 1) := Lib.hid (by rw [List.length_append, HRL.out]; rfl)
  go_roundw
  case rel => exact ⟨i + 1, p3, lo + sz, A9, c9, rs ++ [(⟨Aa, ca, Ab, cb, ⟨a, b, lo, lo + sz⟩⟩ : PRec)], by omega, hp39, by omega, by omega, by go_num, rfl, by go_num, by go_num, by go_num, HRL2, HPF2, HFIN⟩
  case measure => simp [intOf]; omega
def OpenP7 (b : List UInt8) (w : World) (e : Ending) (z : World) : Prop :=
  (∃ q : RunRec, openR7 b = (some q.r, 0) ∧ q.r.bytes = b ∧ q.Ok ∧ e = .returned (.tuple #[.pointer (some ⟨q.g, 0, none⟩), .int .i64 0]) ∧ OW w q.obs z) ∨ (∃ k : Int, k ≠ 0 ∧ openR7 b = (none, k) ∧ e = .returned (.tuple #[.pointer none, .int .i64 k]) ∧ Below w.heap.size w z)
set_option maxRecDepth 100000 in
theorem prefix_any (l p : List UInt8) (A B : Option Addr) (n c m d : Nat) (w : World) (hm : m ≤ 1000000000) (hc : n ≤ c ∧ c ≤ 9223372036854775807) (ha : RB w w.heap.size A n l) (hb : RB w w.heap.size B m p) :
    Calls Tryz.prog 67 #[.slice A n c, .slice B m d] w fun e w' => e = .returned (.bool (decide (m ≤ n) && (l.take m == p))) ∧ w = w' := by
  obtain ⟨hc1, hc2⟩ := hc
  by_cases h : m ≤ n
  case neg =>
    have d1 : decide ((n : Int) ≥ (m : Int)) = false := decide_eq_false (by omega)
    have d2 : decide (m ≤ n) = false := decide_eq_false h
    rw [d2]
    clear h
    go_enter Tryz.func67, Tryz.ntmps67
    go_wp2_with fail
    go_ret
    exact ⟨rfl, rfl⟩
  have d1 : decide ((n : Int) ≥ (m : Int)) = true := decide_eq_true (by omega)
  have d2 : decide (m ≤ n) = true := decide_eq_true h
  have i1 : (0 : Int) ≤ (m : Int) := by omega
  have i2 : (m : Int) ≤ (c : Int) := by omega
  have HT := Lib.hid (ha.take h)
  have HB := Lib.hid hb
  obtain ⟨bo, hbo⟩ : ∃ z, z = (l.take m == p) := ⟨_, rfl⟩
  have HBO := Lib.hid hbo.symm
  rw [d2, HBO.out, Bool.true_and]
  clear ha hb hbo
  go_enter Tryz.func67, Tryz.ntmps67
  go_wp2_with (go_at_call 87; go_must (refine (equal_any (l.take m) p A B m c m d _ HT.out HB.out).mono ?_); rw [HBO.out]; rintro e y ⟨rfl, rfl⟩)
  go_ret
  exact ⟨rfl, rfl⟩
theorem ownB_some {T : TypeId} {base : Nat} {w : World} {A : Option Addr} {c : Nat} {l : List UInt8} (h : OwnB T base w A c l) (hl : 0 < l.length) : ∃ g, A = some ⟨g, 0, none⟩ ∧ base ≤ g ∧ g < w.heap.size := by
  obtain ⟨g, cap, e, h1, h2, _⟩ := own_form h hl
  injection e with e _ _
  exact ⟨g, e, h1, h2⟩
theorem mag_rb (W : World) : RB (W.alloc magObj) (W.alloc magObj).heap.size (some ⟨W.heap.size, 0, none⟩) 8 magR := (reads_lit W magC magR 5 (8, 9) rfl).more (by simp)
theorem numC_vals (f : List UInt8) : numC f 7 = [.int .i64 (numAt f 0), .int .i64 (numAt f 1), .int .i64 (numAt f 2), .int .i64 (numAt f 3), .int .i64 (numAt f 4), .int .i64 (numAt f 5), .int .i64 (numAt f 6)] := rfl
theorem numOk_lt {f : List UInt8} {i : Nat} (h : numOk f i = true) : numAt f i < 9223372036854775808 := by
  unfold numOk at h
  unfold numAt
  exact (readR_end f _ (of_decide_eq_true h)).2.2.2.2
theorem numbers_no {b : List UInt8} {A : Option Addr} {n c : Nat} {w : World} (hs : Sl w A n c b) (hn : n ≤ 100000000) (ht : TabAt 0 w) (h : numsO b = none) :
    Calls Tryz.prog 66 #[.slice A n c] w fun e z => ∃ vs : List Value, vs.length = 7 ∧ (∀ u ∈ vs, u.oneCell' = true) ∧ e = .returned (.tuple #[.agg vs.toArray, .bool false]) ∧ Below w.heap.size w z :=
  (numbers_any b A n c w hs hn ht).mono fun e z hp => by
    rcases hp with ⟨f, h1, h2, _, _⟩ | ⟨_, ⟨vs, h1, h5, h2⟩, h3⟩
    · unfold numsO at h
      rw [h1] at h
      dsimp only at h
      rw [if_pos h2] at h
      cases h
    · exact ⟨vs, h1, h5, h2, h3⟩
theorem numbers_yes {b f : List UInt8} {A : Option Addr} {n c : Nat} {w : World} (hs : Sl w A n c b) (hn : n ≤ 100000000) (ht : TabAt 0 w) (h : footO b = some f) (ha : allOk f = true) :
    Calls Tryz.prog 66 #[.slice A n c] w fun e z => e = .returned (.tuple #[.agg (numC f 7).toArray, .bool true]) ∧ Below w.heap.size w z :=
  (numbers_any b A n c w hs hn ht).mono fun e z hp => by
    rcases hp with ⟨f', h1, _, h3, h4⟩ | ⟨h1, _, _⟩
    · rw [h] at h1; injection h1 with h1; subst h1; exact ⟨h3, h4⟩
    · unfold numsO at h1
      rw [h] at h1
      dsimp only at h1
      rw [if_pos ha] at h1
      cases h1
theorem nums_cases (b : List UInt8) : numsO b = none ∨ ∃ f, footO b = some f ∧ allOk f = true := by
  cases hf : footO b with
  | none => exact .inl (nums_no1 hf)
  | some f =>
    cases ha : allOk f with
    | true => exact .inr ⟨f, rfl, ha⟩
    | false => exact .inl (by unfold numsO; rw [hf]; dsimp only; rw [ha]; rfl)
theorem index_no {x : List UInt8} {N end' : Nat} {A : Option Addr} {n c : Nat} {w : World} (hs : Sl w A n c x) (hn : n ≤ 100000000) (hN : N ≤ 100000000) (he8 : 8 ≤ end' ∧ end' ≤ 100000000) (room : Int) (hroom : room = (end' : Int) - 8) (h : pcsO x N end' = none) :
    Calls Tryz.prog 72 #[.slice A n c, .int .i64 N, .int .i64 room] w fun e z => (∃ A m c, e = .returned (.tuple #[.slice A m c, .bool false])) ∧ Below w.heap.size w z :=
  (index_any x N end' A n c w hs hn hN he8 room (by omega)).mono fun e z hp => by
    rcases hp with ⟨l, _, _, _, _, h1, _⟩ | ⟨_, h2, h3⟩
    · rw [h] at h1; cases h1
    · exact ⟨h2, h3⟩
theorem index_yes {x : List UInt8} {N end' : Nat} {l : List PcR} {A : Option Addr} {n c : Nat} {w : World} (hs : Sl w A n c x) (hn : n ≤ 100000000) (hN : N ≤ 100000000) (he8 : 8 ≤ end' ∧ end' ≤ 100000000) (room : Int) (hroom : room = (end' : Int) - 8) (h : pcsO x N end' = some l) (hN1 : 1 ≤ N) :
    Calls Tryz.prog 72 #[.slice A n c, .int .i64 N, .int .i64 room] w fun e z => ∃ (g c : Nat) (rs : List PRec), e = .returned (.tuple #[.slice (some ⟨g, 0, none⟩) N c, .bool true]) ∧ rs.map PRec.p = l ∧ N = rs.length ∧ OW w (rowO 137 4 (.slice (some ⟨g, 0, none⟩) N c) N (rs.flatMap PRec.cells) :: rs.flatMap PRec.obs) z :=
  (index_any x N end' A n c w hs hn hN he8 room (by omega)).mono fun e z hp => by
    rcases hp with ⟨l', A', m', c', rs, h1, h2, h3, h4, h5⟩ | ⟨h1, _, _⟩
    · rw [h] at h1
      injection h1 with h1
      subst h1
      have hl : rs.length = N := by
        have := (pcsO_len h).1
        rw [← h3, List.length_map] at this
        exact this
      rw [hl] at h4
      subst h4
      obtain ⟨g, cap, e1, _, _, _⟩ := own_form (h5.row (i := 0) rfl) (by omega)
      injection e1 with e1 _ e2
      subst e1
      exact ⟨g, c', rs, h2, h3, hl.symm, h5⟩
    · rw [h] at h1; cases h1
theorem foot_len {b f : List UInt8} (h : footO b = some f) : 68 ≤ b.length := by
  unfold footO at h
  split at h
  · cases h
  · omega
set_option maxRecDepth 10000000 in
set_option maxHeartbeats 16000000 in
theorem open_any7 (b : List UInt8) (A : Option Addr) (n c : Nat) (w : World) (hs : Sl w A n c b) (ht : TabAt 0 w) :
  Calls Tryz.prog 17 #[.slice A n c] w (OpenP7 b w) := by
 have HS : Hid (∀ z, Below w.heap.size w z → Sl z A n c b) := Lib.hid fun z hz => hs.later hz
 have HTB : Hid (∀ z, Below w.heap.size w z → TabAt 0 z) := Lib.hid fun z hz => ht.later hz
 have HL : Hid (b.length = n) := Lib.hid hs.len
 have HX := Lib.hid (OW.nil w)
 have HCC : Hid (n ≤ c ∧ c ≤ 9223372036854775807) := Lib.hid ⟨hs.cap, hs.lim⟩
 have HCN : Hid (A = none → c = 0) := Lib.hid hs.nil
 clear hs ht
 by_cases hbig : 16777216 < n
 case pos =>
  have d0 : decide ((n : Int) > 16777216) = true := decide_eq_true (by omega)
  have d1 : decide (16777216 < n) = true := decide_eq_true hbig
  have HN := Lib.hid (openR_long (b := b) (by rw [HL.out]; exact hbig))
  go_enter Tryz.func17, Tryz.ntmps17
  go_wp2_with fail
  go_ret2
  exact .inr ⟨2, by decide, HN.out, rfl, HX.out.up⟩
 have d0 : decide ((n : Int) > 16777216) = false := decide_eq_false (by omega)
 have d1 : decide (16777216 < n) = false := decide_eq_false hbig
 have hn9 : n ≤ 16777216 := by omega
 have HNO : Hid (openP b = none → openR7 b = (none, 72)) := Lib.hid fun h => openR_none (by rw [HL.out]; exact hn9) h
 have HYES : Hid (∀ r, openP b = some r → openR7 b = (some r, 0)) := Lib.hid fun r h => openR_some (by rw [HL.out]; exact hn9) h
 clear hbig
 go_enter Tryz.func17, Tryz.ntmps17
 rcases nums_cases b with hno | ⟨f, hf, hall⟩
 ·have HN := Lib.hid (HNO.out (openP_no hno))
  have HNS := Lib.hid hno
  clear hno
  go_wp2_with (first
   | (go_at_call 66; go_must (refine (numbers_no (HS.out _ (Below.refl _ _)) (by omega) (HTB.out _ (Below.refl _ _)) HNS.out).mono ?_); rintro e x1 ⟨vs, hvl, hvo, rfl, hb⟩; have HVL := Lib.hid hvl; have HVO := Lib.hid hvo; have HX1 := Lib.hid (HX.out.later hb); clear hb hvl hvo HX)
   | (refine wl_alloc rfl rfl [.int .i64 0, .int .i64 0, .int .i64 0, .int .i64 0, .int .i64 0, .int .i64 0, .int .i64 0] (.inl (by kernel_rfl)) HX1.out ?_; intro g4 x2 hz _; have HX2 : Hid (OW w [boxO g4 [.int .i64 0, .int .i64 0, .int .i64 0, .int .i64 0, .int .i64 0, .int .i64 0, .int .i64 0]] x2) := Lib.hid hz; clear hz HX1)
   | (refine wl_put rfl (.tmp 4) (.tmp 23) rfl HX2.out 0 rfl rfl vs rfl (by rw [HVL.out]; rfl) (by rw [HVL.out]; kernel_rfl) HVO.out ?_; intro x3 hz _; have HX3 : Hid (Below w.heap.size w x3) := Lib.hid hz.up; clear hz HX2))
  go_ret2
  exact .inr ⟨72, by decide, HN.out, rfl, HX3.out⟩
 have HOP : Hid (b.take 8 = magR → openP b = openN b [numAt f 0, numAt f 1, numAt f 2, numAt f 3, numAt f 4, numAt f 5, numAt f 6]) := Lib.hid fun h => openP_is h hf hall
 have hn68 : 68 ≤ n := by have := foot_len hf; rw [HL.out] at this; exact this
 have HBD : Hid (∀ i, i < 7 → numAt f i < 9223372036854775808) := Lib.hid fun i hi => numOk_lt (by unfold allOk at hall; rw [List.all_eq_true] at hall; exact hall i (List.mem_range.2 hi))
 have HF := Lib.hid hf
 have HAL := Lib.hid hall
 clear hf hall
 obtain ⟨q0, hq0⟩ : ∃ z, z = numAt f 0 := ⟨_, rfl⟩
 have HQ0 := Lib.hid hq0.symm
 have hqb0 : q0 < 9223372036854775808 := by rw [hq0]; exact HBD.out 0 (by decide)
 obtain ⟨q1, hq1⟩ : ∃ z, z = numAt f 1 := ⟨_, rfl⟩
 have HQ1 := Lib.hid hq1.symm
 have hqb1 : q1 < 9223372036854775808 := by rw [hq1]; exact HBD.out 1 (by decide)
 obtain ⟨q2, hq2⟩ : ∃ z, z = numAt f 2 := ⟨_, rfl⟩
 have HQ2 := Lib.hid hq2.symm
 have hqb2 : q2 < 9223372036854775808 := by rw [hq2]; exact HBD.out 2 (by decide)
 obtain ⟨q3, hq3⟩ : ∃ z, z = numAt f 3 := ⟨_, rfl⟩
 have HQ3 := Lib.hid hq3.symm
 have hqb3 : q3 < 9223372036854775808 := by rw [hq3]; exact HBD.out 3 (by decide)
 obtain ⟨q4, hq4⟩ : ∃ z, z = numAt f 4 := ⟨_, rfl⟩
 have HQ4 := Lib.hid hq4.symm
 have hqb4 : q4 < 9223372036854775808 := by rw [hq4]; exact HBD.out 4 (by decide)
 obtain ⟨q5, hq5⟩ : ∃ z, z = numAt f 5 := ⟨_, rfl⟩
 have HQ5 := Lib.hid hq5.symm
 have hqb5 : q5 < 9223372036854775808 := by rw [hq5]; exact HBD.out 5 (by decide)
 obtain ⟨q6, hq6⟩ : ∃ z, z = numAt f 6 := ⟨_, rfl⟩
 have HQ6 := Lib.hid hq6.symm
 have hqb6 : q6 < 9223372036854775808 := by rw [hq6]; exact HBD.out 6 (by decide)
 clear hq0 hq1 hq2 hq3 hq4 hq5 hq6
 have HNC : Hid (numC f 7 = [.int .i64 q0, .int .i64 q1, .int .i64 q2, .int .i64 q3, .int .i64 q4, .int .i64 q5, .int .i64 q6]) := Lib.hid (by rw [numC_vals, HQ0.out, HQ1.out, HQ2.out, HQ3.out, HQ4.out, HQ5.out, HQ6.out])
 have kc := conv_mag
 obtain ⟨pb, hpb⟩ : ∃ z, z = (b.take 8 == magR) := ⟨_, rfl⟩
 have HPB : Hid ((decide (8 ≤ n) && (b.take 8 == magR)) = pb) := Lib.hid (by rw [hpb, decide_eq_true (by omega), Bool.true_and])
 have HPB2 := Lib.hid hpb
 clear hpb
 go_upto_if 33 with (first
  | (go_at_call 66; go_must (refine (numbers_yes (HS.out _ (Below.refl _ _)) (by omega) (HTB.out _ (Below.refl _ _)) HF.out HAL.out).mono ?_); rw [HNC.out]; rintro e x1 ⟨rfl, hb⟩; have HX1 := Lib.hid (HX.out.later hb); clear hb HX)
  | (refine wl_alloc rfl rfl [.int .i64 0, .int .i64 0, .int .i64 0, .int .i64 0, .int .i64 0, .int .i64 0, .int .i64 0] (.inl (by kernel_rfl)) HX1.out ?_; intro g4 x2 hz _; have HX2 : Hid (OW w [boxO g4 [.int .i64 0, .int .i64 0, .int .i64 0, .int .i64 0, .int .i64 0, .int .i64 0, .int .i64 0]] x2) := Lib.hid hz; clear hz HX1)
  | (refine wl_put rfl (.tmp 4) (.tmp 23) rfl HX2.out 0 rfl rfl [.int .i64 q0, .int .i64 q1, .int .i64 q2, .int .i64 q3, .int .i64 q4, .int .i64 q5, .int .i64 q6] rfl rfl (by kernel_rfl) (by simp [Value.oneCell']) ?_; intro x3 hz _; have HX3 : Hid (OW w [boxO g4 [.int .i64 q0, .int .i64 q1, .int .i64 q2, .int .i64 q3, .int .i64 q4, .int .i64 q5, .int .i64 q6]] x3) := Lib.hid hz; clear hz HX2)
  | (go_at_call 67; go_must (refine (prefix_any b magR A _ n c 8 8 _ (by omega) HCC.out (HS.out _ (HX3.out.al magObj).up).rb (mag_rb _)).mono ?_); rw [HPB.out]; rintro e y ⟨rfl, rfl⟩; have HX4 := Lib.hid (HX3.out.al magObj)))
 clear kc
 cases pb with
 | false =>
  have HN := Lib.hid (HNO.out (openP_pre (by intro h; have := HPB2.out; rw [h, beq_self_eq_true] at this; cases this)))
  go_wp2_with fail
  go_ret2
  exact .inr ⟨72, by decide, HN.out, rfl, HX4.out.up⟩
 | true =>
 have HOPN : Hid (openP b = openN b [q0, q1, q2, q3, q4, q5, q6]) := Lib.hid (by rw [HOP.out (beq_iff_eq.1 HPB2.out.symm), HQ0.out, HQ1.out, HQ2.out, HQ3.out, HQ4.out, HQ5.out, HQ6.out])
 clear HPB HPB2 HOP HF HAL HX3
 obtain ⟨x5, hx5⟩ : ∃ z, z = x3.alloc magObj := ⟨_, rfl⟩
 rw [← hx5] at HX4 ⊢
 clear hx5
 have s0 : IntKind.i64.wrap ((n : Int) - 68) = (n : Int) - 68 := i64_sum (by omega) (by omega)
 have s1 : IntKind.i64.wrap ((q6 : Int) - (q5 : Int)) = (q6 : Int) - (q5 : Int) := i64_sum (by omega) (by omega)
 have s2 : IntKind.i64.wrap ((n : Int) - 68 - (q6 : Int)) = (n : Int) - 68 - (q6 : Int) := i64_sum (by omega) (by omega)
 go_upto_region 6 with fail
 refine lt_start [] (by kernel_rfl) ?_
 intro xd hd
 refine ⟨fun z => OW w [boxO g4 [.int .i64 q0, .int .i64 q1, .int .i64 q2, .int .i64 q3, .int .i64 q4, .int .i64 q5, .int .i64 q6]] z, ?_⟩
 have HS := Lib.hid (HX4.out.later hd)
 refine lt_pure 0 rfl (by kernel_rfl) (by kernel_rfl) (by kernel_rfl) (by kernel_rfl) (fun _ _ _ h => h) (v := .pointer (some ⟨g4, 0, none⟩)) (yi_run rfl (fun w => by kernel_rfl)) (fun _ => HS.out) ?_
 simp only [Act.put, ls1, ls2, ls3]
 refine lq 1 [11, 12, 13, 14, 15] rfl (yi_cell rfl rfl rfl (fun w hS => OW.cell hS (i := 0) (j := 0) rfl rfl) (fun w => Tryz.isAgg3 w)) HS.out ?_
 simp only [Act.put, ls1, ls2, ls3]
 refine lt_pure 2 rfl (by kernel_rfl) (by kernel_rfl) (by kernel_rfl) (by kernel_rfl) (fun _ _ _ h => h) (v := .pointer (some ⟨g4, 4, none⟩)) (yi_run rfl (fun w => by kernel_rfl)) (fun _ => HS.out) ?_
 simp only [Act.put, ls1, ls2, ls3]
 refine lq 3 [12, 13, 14, 15] rfl (yi_cell rfl rfl rfl (fun w hS => OW.cell hS (i := 0) (j := 4) rfl rfl) (fun w => Tryz.isAgg3 w)) HS.out ?_
 simp only [Act.put, ls1, ls2, ls3]
 refine lt_pure 4 rfl (by kernel_rfl) (by kernel_rfl) (by kernel_rfl) (by kernel_rfl) (fun _ _ _ h => h) (v := .pointer (some ⟨g4, 5, none⟩)) (yi_run rfl (fun w => by kernel_rfl)) (fun _ => HS.out) ?_
 simp only [Act.put, ls1, ls2, ls3]
 refine lq 5 [13, 14, 15] rfl (yi_cell rfl rfl rfl (fun w hS => OW.cell hS (i := 0) (j := 5) rfl rfl) (fun w => Tryz.isAgg3 w)) HS.out ?_
 simp only [Act.put, ls1, ls2, ls3]
 refine lt_pure 6 rfl (by kernel_rfl) (by kernel_rfl) (by kernel_rfl) (by kernel_rfl) (fun _ _ _ h => h) (v := .pointer (some ⟨g4, 6, none⟩)) (yi_run rfl (fun w => by kernel_rfl)) (fun _ => HS.out) ?_
 simp only [Act.put, ls1, ls2, ls3]
 refine lq 7 [14, 15] rfl (yi_cell rfl rfl rfl (fun w hS => OW.cell hS (i := 0) (j := 6) rfl rfl) (fun w => Tryz.isAgg3 w)) HS.out ?_
 simp only [Act.put, ls1, ls2, ls3]
 refine lp 8 rfl (v := ?_) (fun w => ?_) (fun _ => HS.out) ?_
 rotate_left
 ·first | (go_simp; done) | (go_simp; with_reducible rfl)
 simp only [Act.put, ls1, ls2, ls3]
 refine lp 9 rfl (v := ?_) (fun w => ?_) (fun _ => HS.out) ?_
 rotate_left
 ·first | (go_simp; done) | (go_simp; with_reducible rfl)
 simp only [Act.put, ls1, ls2, ls3]
 refine lp 10 rfl (v := ?_) (fun w => ?_) (fun _ => HS.out) ?_
 rotate_left
 ·first | (go_simp; done) | (go_simp; with_reducible rfl)
 simp only [Act.put, ls1, ls2, ls3]
 refine lp 11 rfl (v := ?_) (fun w => ?_) (fun _ => HS.out) ?_
 rotate_left
 ·first | (go_simp; done) | (go_simp; with_reducible rfl)
 simp only [Act.put, ls1, ls2, ls3]
 refine lp 12 rfl (v := ?_) (fun w => ?_) (fun _ => HS.out) ?_
 rotate_left
 ·first | (go_simp; done) | (go_simp; with_reducible rfl)
 simp only [Act.put, ls1, ls2, ls3]
 refine lp 13 rfl (v := ?_) (fun w => ?_) (fun _ => HS.out) ?_
 rotate_left
 ·first | (go_simp; done) | (go_simp; with_reducible rfl)
 simp only [Act.put, ls1, ls2, ls3]
 refine lp 14 rfl (v := ?_) (fun w => ?_) (fun _ => HS.out) ?_
 rotate_left
 ·first | (go_simp; done) | (go_simp; with_reducible rfl)
 simp only [Act.put, ls1, ls2, ls3]
 refine lp 15 rfl (v := ?_) (fun w => ?_) (fun _ => HS.out) ?_
 rotate_left
 ·first | (go_simp; done) | (go_simp; with_reducible rfl)
 simp only [Act.put, ls1, ls2, ls3]
 refine lt_done (by kernel_rfl) ?_
 have HX6 := Lib.hid HS.out
 clear HS
 obtain ⟨se, hse⟩ : ∃ z, z = sealI (q1 : Int) (q2 : Int) (q3 : Int) := ⟨_, rfl⟩
 have HSE := Lib.hid hse.symm
 clear hse
 go_upto_region 7 with fail
 go_step
 refine wl_idxA rfl 127 (.tmp 4) (.const (.int .i64 1)) rfl (idxA7 g4 1 (by decide) _) ?_
 simp only [Act.put, ls1, ls2, ls3]
 refine wpList_load_cell rfl 3 (.tmp 45) rfl rfl (HX6.out.cell (i := 0) (j := 1) rfl rfl) (fun w => Tryz.isAgg3 w) ?_
 simp only [Act.put, ls1, ls2, ls3]
 refine wl_idxA rfl 127 (.tmp 4) (.const (.int .i64 2)) rfl (idxA7 g4 2 (by decide) _) ?_
 simp only [Act.put, ls1, ls2, ls3]
 refine wpList_load_cell rfl 3 (.tmp 47) rfl rfl (HX6.out.cell (i := 0) (j := 2) rfl rfl) (fun w => Tryz.isAgg3 w) ?_
 simp only [Act.put, ls1, ls2, ls3]
 refine wl_idxA rfl 127 (.tmp 4) (.const (.int .i64 3)) rfl (idxA7 g4 3 (by decide) _) ?_
 simp only [Act.put, ls1, ls2, ls3]
 refine wpList_load_cell rfl 3 (.tmp 49) rfl rfl (HX6.out.cell (i := 0) (j := 3) rfl rfl) (fun w => Tryz.isAgg3 w) ?_
 simp only [Act.put, ls1, ls2, ls3]
 cases se with
 | false =>
  have HN : Hid (openR7 b = (none, 72)) := Lib.hid (HNO.out (by rw [HOPN.out, openN_is, if_pos (.inl HSE.out)]))
  go_wp2_with (go_at_call 68; go_must (refine (rsealed_any _ _ _ _).mono ?_); rw [HSE.out]; rintro e y ⟨rfl, rfl⟩)
  go_ret2
  exact .inr ⟨72, by decide, HN.out, rfl, HX6.out.up⟩
 | true =>
 by_cases hc : q4 < 1
 case pos =>
  have d2 : decide ((q4 : Int) < 1) = true := decide_eq_true (by omega)
  have e2 : decide (q4 < 1) = true := decide_eq_true hc
  have HN : Hid (openR7 b = (none, 72)) := Lib.hid (HNO.out (by rw [HOPN.out, openN_is, if_pos (.inr (.inl hc))]))
  go_wp2_with (go_at_call 68; go_must (refine (rsealed_any _ _ _ _).mono ?_); rw [HSE.out]; rintro e y ⟨rfl, rfl⟩)
  go_ret2
  exact .inr ⟨72, by decide, HN.out, rfl, HX6.out.up⟩
 have d2 : decide ((q4 : Int) < 1) = false := decide_eq_false (by omega)
 have e2 : decide (q4 < 1) = false := decide_eq_false hc
 have hk0 := hc
 clear hc
 by_cases hc : q0 < q4
 case pos =>
  have d3 : decide ((q0 : Int) < (q4 : Int)) = true := decide_eq_true (by omega)
  have e3 : decide (q0 < q4) = true := decide_eq_true hc
  have HN : Hid (openR7 b = (none, 72)) := Lib.hid (HNO.out (by rw [HOPN.out, openN_is, if_pos (.inr (.inr hc))]))
  go_wp2_with (go_at_call 68; go_must (refine (rsealed_any _ _ _ _).mono ?_); rw [HSE.out]; rintro e y ⟨rfl, rfl⟩)
  go_ret2
  exact .inr ⟨72, by decide, HN.out, rfl, HX6.out.up⟩
 have d3 : decide ((q0 : Int) < (q4 : Int)) = false := decide_eq_false (by omega)
 have e3 : decide (q0 < q4) = false := decide_eq_false hc
 have hk1 := hc
 clear hc
 by_cases hc : n < q4
 case pos =>
  have d4 : decide ((q4 : Int) > (n : Int)) = true := decide_eq_true (by omega)
  have e4 : decide (n < q4) = true := decide_eq_true hc
  have HN : Hid (openR7 b = (none, 72)) := Lib.hid (HNO.out (by rw [HOPN.out, openN_many (by rw [HL.out]; exact hc)]))
  go_wp2_with (go_at_call 68; go_must (refine (rsealed_any _ _ _ _).mono ?_); rw [HSE.out]; rintro e y ⟨rfl, rfl⟩)
  go_ret2
  exact .inr ⟨72, by decide, HN.out, rfl, HX6.out.up⟩
 have d4 : decide ((q4 : Int) > (n : Int)) = false := decide_eq_false (by omega)
 have e4 : decide (n < q4) = false := decide_eq_false hc
 have hk2 := hc
 clear hc
 have HOP2 : Hid (openP b = if q5 < 8 ∨ q6 < q5 + 4 ∨ n < q6 + 72 then none else if unsB (cutS b q5 (q6 - q5)) = false ∨ unsB (cutS b q6 (n - 68 - q6)) = false then none else if cutS b q5 (q6 - q5 - 4) ≠ [] ∧ isF (cutS b q5 (q6 - q5 - 4)) = false then none else match pcsO (cutS b q6 (n - 72 - q6)) q4 q5 with | none => none | some l => some ⟨b, q0, q1, q2, q3, cutS b q5 (q6 - q5 - 4), l⟩) := Lib.hid (by rw [HOPN.out, openN_is, if_neg (by rintro (h | h | h); rw [HSE.out] at h; cases h; omega; omega), HL.out]; rfl)
 go_upto_region 9 with (go_at_call 68; go_must (refine (rsealed_any _ _ _ _).mono ?_); rw [HSE.out]; rintro e y ⟨rfl, rfl⟩)
 by_cases hc : q5 < 8
 case pos =>
  have d5 : decide ((q5 : Int) < 8) = true := decide_eq_true (by omega)
  have hci : (q5 : Int) < 8 := by omega
  have HN : Hid (openR7 b = (none, 72)) := Lib.hid (HNO.out (by rw [HOP2.out, if_pos (by omega)]))
  clear hc
  go_wp2_with fail
  go_ret2
  exact .inr ⟨72, by decide, HN.out, rfl, HX6.out.up⟩
 have d5 : decide ((q5 : Int) < 8) = false := decide_eq_false (by omega)
 have hj0 : ¬ ((q5 : Int) < 8) := by omega
 clear hc
 by_cases hc : n < q5 + 68
 case pos =>
  have d6 : decide ((q5 : Int) > (n : Int) - 68) = true := decide_eq_true (by omega)
  have hci : (q5 : Int) > (n : Int) - 68 := by omega
  have HN : Hid (openR7 b = (none, 72)) := Lib.hid (HNO.out (by rw [HOP2.out, if_pos (by omega)]))
  clear hc
  go_wp2_with fail
  go_ret2
  exact .inr ⟨72, by decide, HN.out, rfl, HX6.out.up⟩
 have d6 : decide ((q5 : Int) > (n : Int) - 68) = false := decide_eq_false (by omega)
 have hj1 : ¬ ((q5 : Int) > (n : Int) - 68) := by omega
 clear hc
 by_cases hc : n < q6 + 68
 case pos =>
  have d7 : decide ((q6 : Int) > (n : Int) - 68) = true := decide_eq_true (by omega)
  have hci : (q6 : Int) > (n : Int) - 68 := by omega
  have HN : Hid (openR7 b = (none, 72)) := Lib.hid (HNO.out (by rw [HOP2.out, if_pos (by omega)]))
  clear hc
  go_wp2_with fail
  go_ret2
  exact .inr ⟨72, by decide, HN.out, rfl, HX6.out.up⟩
 have d7 : decide ((q6 : Int) > (n : Int) - 68) = false := decide_eq_false (by omega)
 have hj2 : ¬ ((q6 : Int) > (n : Int) - 68) := by omega
 clear hc
 by_cases hc : q6 < q5 + 4
 case pos =>
  have d8 : decide ((q6 : Int) - (q5 : Int) < 4) = true := decide_eq_true (by omega)
  have hci : (q6 : Int) - (q5 : Int) < 4 := by omega
  have HN : Hid (openR7 b = (none, 72)) := Lib.hid (HNO.out (by rw [HOP2.out, if_pos (by omega)]))
  clear hc
  go_wp2_with fail
  go_ret2
  exact .inr ⟨72, by decide, HN.out, rfl, HX6.out.up⟩
 have d8 : decide ((q6 : Int) - (q5 : Int) < 4) = false := decide_eq_false (by omega)
 have hj3 : ¬ ((q6 : Int) - (q5 : Int) < 4) := by omega
 clear hc
 by_cases hc : n < q6 + 72
 case pos =>
  have d9 : decide ((n : Int) - 68 - (q6 : Int) < 4) = true := decide_eq_true (by omega)
  have hci : (n : Int) - 68 - (q6 : Int) < 4 := by omega
  have HN : Hid (openR7 b = (none, 72)) := Lib.hid (HNO.out (by rw [HOP2.out, if_pos (by omega)]))
  clear hc
  go_wp2_with fail
  go_ret2
  exact .inr ⟨72, by decide, HN.out, rfl, HX6.out.up⟩
 have d9 : decide ((n : Int) - 68 - (q6 : Int) < 4) = false := decide_eq_false (by omega)
 have hj4 : ¬ ((n : Int) - 68 - (q6 : Int) < 4) := by omega
 clear hc
 have HOP3 : Hid (openP b = if unsB (cutS b q5 (q6 - q5)) = false ∨ unsB (cutS b q6 (n - 68 - q6)) = false then none else if cutS b q5 (q6 - q5 - 4) ≠ [] ∧ isF (cutS b q5 (q6 - q5 - 4)) = false then none else match pcsO (cutS b q6 (n - 72 - q6)) q4 q5 with | none => none | some l => some ⟨b, q0, q1, q2, q3, cutS b q5 (q6 - q5 - 4), l⟩) := Lib.hid (by rw [HOP2.out, if_neg (by omega)])
 clear HOP2 HOPN
 have h8 : 8 ≤ q5 := by omega
 have h4G : q5 + 4 ≤ q6 := by omega
 have h4H : q6 + 72 ≤ n := by omega
 have h40 : 1 ≤ q4 ∧ q4 ≤ n := by omega
 go_upto_region 11 with fail
 clear d2 e2 d3 e3 d4 e4 hk0 hk1 hk2 d5 d6 d7 d8 d9 hj0 hj1 hj2 hj3 hj4 s0 s1 s2 HX4
 obtain ⟨G, rfl⟩ : ∃ G, q6 = q5 + G := ⟨q6 - q5, by omega⟩
 obtain ⟨H, rfl⟩ : ∃ H, n = q5 + G + H + 68 := ⟨n - 68 - (q5 + G), by omega⟩
 have hG4 : 4 ≤ G := by omega
 have hH4 : 4 ≤ H := by omega
 clear h4G h4H
 rw [show (((q5 + G + H + 68 : Nat) : Int)) - 68 = ((q5 + G + H : Nat) : Int) from by omega]
 rw [show q5 + G - q5 = G from by omega, show q5 + G + H + 68 - 68 - (q5 + G) = H from by omega, show q5 + G + H + 68 - 72 - (q5 + G) = H - 4 from by omega] at HOP3
 go_upto_region 12 with (go_at_call 69; go_loud (go_must (refine (clone_any b A _ c _ (by omega) HCN.out (HS.out _ HX6.out.up).rb).mono ?_); rintro e x7 hp; obtain ⟨A2, c2, rfl, hs2, ho, hb⟩ := hp.at_ (n := q5 + G + H + 68) HL.out; have HX7 := Lib.hid (HX6.out.app (OW.byt1 hb ho)); obtain ⟨gb, rfl, _, _⟩ := ownB_some ho (by rw [HL.out]; omega); have HCC2 : Hid (q5 + G + H + 68 ≤ c2 ∧ c2 ≤ 9223372036854775807) := Lib.hid ⟨hs2.cap, hs2.lim⟩; clear hp hs2 ho hb))
 obtain ⟨hcc1, hcc2⟩ := HCC2.out
 have i1 : (0 : Int) ≤ (q5 : Int) := by omega
 have i2 : (q5 : Int) ≤ (q5 : Int) + (G : Int) := by omega
 have i3 : (q5 : Int) + (G : Int) ≤ (c2 : Int) := by omega
 have i4 : (0 : Int) ≤ (q5 : Int) + (G : Int) := by omega
 have i5 : (q5 : Int) + (G : Int) ≤ (q5 : Int) + (G : Int) + (H : Int) := by omega
 have i6 : (q5 : Int) + (G : Int) + (H : Int) ≤ (c2 : Int) := by omega
 have i7 : ¬ c2 = q5 := by omega
 have i8 : ¬ c2 = q5 + G := by omega
 have HC1 : Hid (∀ z, Below x7.heap.size x7 z → Sl z (some ⟨gb, q5, none⟩) G (c2 - q5) (cutS b q5 G)) := Lib.hid fun z hz => by
  have h := ((HX7.out.sl (i := 1) rfl HL.out).cut (lo := q5) (hi := q5 + G) (by omega) (by omega) (by omega)).later hz
  rw [show q5 + G - q5 = G from by omega, Option.map_some, show (⟨gb, 0, none⟩ : Addr).add q5 = ⟨gb, q5, none⟩ from by simp [Addr.add]; omega] at h
  exact h
 have HC2 : Hid (∀ z, Below x7.heap.size x7 z → Sl z (some ⟨gb, q5 + G, none⟩) H (c2 - (q5 + G)) (cutS b (q5 + G) H)) := Lib.hid fun z hz => by
  have h := ((HX7.out.sl (i := 1) rfl HL.out).cut (lo := q5 + G) (hi := q5 + G + H) (by omega) (by omega) (by omega)).later hz
  rw [show q5 + G + H - (q5 + G) = H from by omega, Option.map_some, show (⟨gb, 0, none⟩ : Addr).add (q5 + G) = ⟨gb, q5 + G, none⟩ from by simp [Addr.add]; omega] at h
  exact h
 have HTB7 : Hid (∀ z, Below x7.heap.size x7 z → TabAt 0 z) := Lib.hid fun z hz => (HTB.out _ HX7.out.up).later hz
 obtain ⟨u1, hu1⟩ : ∃ z, z = unsB (cutS b q5 G) := ⟨_, rfl⟩
 obtain ⟨u2, hu2⟩ : ∃ z, z = unsB (cutS b (q5 + G) H) := ⟨_, rfl⟩
 have HU1 := Lib.hid hu1.symm
 have HU2 := Lib.hid hu2.symm
 clear hu1 hu2
 go_upto_region 14 with (first
  | (go_at_call_of 70 (Value.slice (some ⟨gb, q5, none⟩) G (c2 - q5)); go_must (refine (unsummed_any (cutS b q5 G) _ _ _ _ (HC1.out _ (Below.refl _ _)) (by omega) (HTB7.out _ (Below.refl _ _))).mono ?_); rw [HU1.out]; rintro e x8 ⟨rfl, hb⟩; have HX8 := Lib.hid hb; clear hb)
  | (go_at_call 70; go_must (refine (unsummed_any (cutS b (q5 + G) H) _ _ _ _ (HC2.out _ HX8.out) (by omega) (HTB7.out _ HX8.out)).mono ?_); rw [HU2.out]; rintro e x9 ⟨rfl, hb⟩; have HX9 : Hid (Below x7.heap.size x7 x9) := Lib.hid (HX8.out.trans (hb.mono HX8.out.size)); clear hb HX8))
 clear i1 i2 i3 i4 i5 i6 i7 i8
 obtain ⟨m, hm⟩ : ∃ m, m = G - 4 := ⟨_, rfl⟩
 obtain ⟨k, hk⟩ : ∃ k, k = H - 4 := ⟨_, rfl⟩
 rw [← hm, ← hk]
 rw [HU1.out, HU2.out, ← hm, ← hk] at HOP3
 have HCF : Hid (∀ z, Below x7.heap.size x7 z → Sl z (some ⟨gb, q5, none⟩) m (c2 - q5) (cutS b q5 m)) := Lib.hid fun z hz => by
  have h := (HC1.out z hz).take (m := m) (by omega)
  rw [show (cutS b q5 G).take m = cutS b q5 m from by unfold cutS; rw [List.take_take, Nat.min_eq_left (by omega)]] at h
  exact h
 have HCK : Hid (∀ z, Below x7.heap.size x7 z → Sl z (some ⟨gb, q5 + G, none⟩) k (c2 - (q5 + G)) (cutS b (q5 + G) k)) := Lib.hid fun z hz => by
  have h := (HC2.out z hz).take (m := k) (by omega)
  rw [show (cutS b (q5 + G) H).take k = cutS b (q5 + G) k from by unfold cutS; rw [List.take_take, Nat.min_eq_left (by omega)]] at h
  exact h
 have HMG : Hid (m + 4 = G ∧ k + 4 = H) := Lib.hid ⟨by omega, by omega⟩
 have hmb : m ≤ 16777216 ∧ k ≤ 16777216 := ⟨by omega, by omega⟩
 clear hm hk HC1 HC2 HU1 HU2
 obtain ⟨fl, hfl⟩ : ∃ z, z = cutS b q5 m := ⟨_, rfl⟩
 obtain ⟨ix, hix⟩ : ∃ z, z = cutS b (q5 + G) k := ⟨_, rfl⟩
 rw [← hfl, ← hix] at HOP3
 rw [← hfl] at HCF
 rw [← hix] at HCK
 have HFL := Lib.hid hfl
 clear hfl hix
 cases u1 with
 | false =>
  have HN : Hid (openR7 b = (none, 72)) := Lib.hid (HNO.out (by rw [HOP3.out, if_pos (.inl rfl)]))
  go_wp2_with fail
  go_ret2
  exact .inr ⟨72, by decide, HN.out, rfl, (HX7.out.later HX9.out).up⟩
 | true =>
 cases u2 with
 | false =>
  have HN : Hid (openR7 b = (none, 72)) := Lib.hid (HNO.out (by rw [HOP3.out, if_pos (.inr rfl)]))
  go_wp2_with fail
  go_ret2
  exact .inr ⟨72, by decide, HN.out, rfl, (HX7.out.later HX9.out).up⟩
 | true =>
 have HOP4 : Hid (openP b = if fl ≠ [] ∧ isF fl = false then none else match pcsO ix q4 q5 with | none => none | some l => some ⟨b, q0, q1, q2, q3, fl, l⟩) := Lib.hid (by rw [HOP3.out, if_neg (by simp)])
 clear HOP3
 have hfn : fl.length = m := (HCF.out _ (Below.refl _ _)).len
 have s8 : IntKind.i64.wrap ((q5 : Int) - 8) = (q5 : Int) - 8 := i64_sum (by omega) (by omega)
 by_cases hm0 : m = 0
 case' pos =>
  have HOP5 : Hid (openP b = match pcsO ix q4 q5 with | none => none | some l => some ⟨b, q0, q1, q2, q3, fl, l⟩) := Lib.hid (by rw [HOP4.out, if_neg (by rintro ⟨h, _⟩; exact h (List.eq_nil_of_length_eq_zero (by omega)))])
  have dm : decide ((m : Int) > 0) = false := decide_eq_false (by omega)
  have dm2 : decide (0 < m) = false := decide_eq_false (by omega)
  clear HOP4
  go_upto_region 16 with fail
  have HX10 := Lib.hid (HX7.out.later HX9.out)
  have HBZ : Hid (∀ (z : World), Below x9.heap.size x9 z → Below x7.heap.size x7 z) := Lib.hid fun z hz => HX9.out.trans (hz.mono HX9.out.size)
  clear dm dm2 hm0
 case' neg =>
  have dm : decide ((m : Int) > 0) = true := decide_eq_true (by omega)
  have dm2 : decide (0 < m) = true := decide_eq_true (by omega)
  obtain ⟨fo, hfo⟩ : ∃ z, z = bf_checkE fl := ⟨_, rfl⟩
  have HFO := Lib.hid hfo
  have HFF := Lib.hid hfn
  clear hfo hfn
  by_cases hf0 : fo = 0
  case neg =>
   have d0 : decide (fo = 0) = false := decide_eq_false hf0
   have HN : Hid (openR7 b = (none, 72)) := Lib.hid (HNO.out (by rw [HOP4.out, if_pos ⟨by intro h; have := HFF.out; rw [h] at this; exact hm0 this.symm, by have := HFO.out; unfold bf_checkE at this; cases hh : isF fl with | false => rfl | true => rw [hh] at this; exact absurd this hf0⟩]))
   go_wp2_with (go_at_call 71; go_loud (go_must (refine (bf_check_any fl _ m _ _ (by omega) (HCF.out _ HX9.out).rb).mono ?_); rw [← HFO.out]; rintro e x10 ⟨rfl, hb⟩; have HX10 := Lib.hid ((HX7.out.later HX9.out).later hb); clear hb))
   go_ret2
   exact .inr ⟨72, by decide, HN.out, rfl, HX10.out.up⟩
  have d0 : decide (fo = 0) = true := decide_eq_true hf0
  have HOP5 : Hid (openP b = match pcsO ix q4 q5 with | none => none | some l => some ⟨b, q0, q1, q2, q3, fl, l⟩) := Lib.hid (by rw [HOP4.out, if_neg (by rintro ⟨_, h⟩; have := HFO.out; unfold bf_checkE at this; rw [h] at this; rw [hf0] at this; cases this)])
  clear HOP4
  go_upto_region 16 with (go_at_call 71; go_loud (go_must (refine (bf_check_any fl _ m _ _ (by omega) (HCF.out _ HX9.out).rb).mono ?_); rw [← HFO.out]; rintro e x10 ⟨rfl, hb⟩; have HX10 := Lib.hid ((HX7.out.later HX9.out).later hb); have HBZ : Hid (∀ (z : World), Below x10.heap.size x10 z → Below x7.heap.size x7 z) := Lib.hid fun z hz => HX9.out.trans ((hb.trans (hz.mono hb.size)).mono HX9.out.size); clear hb))
  have hfn := HFF.out
  clear dm dm2 d0 hf0 HFO HFF hm0
 all_goals
  have hq5 : q5 ≤ 100000000 := by omega
  cases hpc : pcsO ix q4 q5 with
  | none =>
   have HP := Lib.hid hpc
   have HN : Hid (openR7 b = (none, 72)) := Lib.hid (HNO.out (by rw [HOP5.out, hpc]))
   clear hpc
   go_wp2_with (go_at_call 72; go_loud (go_must (refine (index_no (HCK.out _ (HBZ.out _ (Below.refl _ _))) (by omega) (by omega) ⟨h8, hq5⟩ _ rfl HP.out).mono ?_); rintro e x11 ⟨⟨A3, m3, c3, rfl⟩, hb⟩; have HX11 := Lib.hid (HX10.out.later hb); clear hb))
   go_ret2
   exact .inr ⟨72, by decide, HN.out, rfl, HX11.out.up⟩
  | some l =>
  have HP := Lib.hid hpc
  have HN : Hid (openR7 b = (some ⟨b, q0, q1, q2, q3, fl, l⟩, 0)) := Lib.hid (HYES.out _ (by rw [HOP5.out, hpc]))
  clear hpc
  go_upto_region 19 with (go_at_call 72; go_loud (go_must (refine (index_yes (HCK.out _ (HBZ.out _ (Below.refl _ _))) (by omega) (by omega) ⟨h8, hq5⟩ _ rfl HP.out h40.1).mono ?_); rintro e x11 ⟨g3, c3, rs, rfl, hrs, hm3, ho⟩; have HX11 := Lib.hid (HX10.out.app ho); have HM3 := Lib.hid hm3; have HRS := Lib.hid hrs; clear ho hm3 hrs))
  clear HX10 HBZ HP HOP5 s8 HCF HCK HTB7 HYES HNO HTB HS HX9 HX7 HX6 HSE
  obtain ⟨u, rfl⟩ : ∃ u, q4 = u + 1 := ⟨q4 - 1, by omega⟩
  obtain ⟨f1, hf1⟩ : ∃ r, rs[0]? = some r := ⟨_, List.getElem?_eq_getElem (by have := HM3.out; omega)⟩
  obtain ⟨fn, hfn'⟩ : ∃ r, rs[u]? = some r := ⟨_, List.getElem?_eq_getElem (by have := HM3.out; omega)⟩
  have HF1 := Lib.hid hf1
  have HFN := Lib.hid hfn'
  clear hf1 hfn'
  have sU : IntKind.i64.wrap (u : Int) = (u : Int) := IntWalk.i64_in _ ⟨by omega, by omega⟩
  have j1 : (0 : Int) < (u : Int) + 1 := by omega
  have j2 : (0 : Int) ≤ (u : Int) := by omega
  have j3 : (u : Int) < (u : Int) + 1 := by omega
  refine lt_start [21] (by kernel_rfl) ?_
  intro xd hd
  refine ⟨fun z => OW w (boxO g4 [.int .i64 q0, .int .i64 q1, .int .i64 q2, .int .i64 q3, .int .i64 (u + 1 : Nat), .int .i64 q5, .int .i64 (q5 + G : Nat)] :: bytO 5 (some ⟨gb, 0, none⟩, c2, b) :: rowO 137 4 (.slice (some ⟨g3, 0, none⟩) (u + 1) c3) (u + 1) (rs.flatMap PRec.cells) :: rs.flatMap PRec.obs) z, ?_⟩
  have HX12 : Hid (OW w (boxO g4 [.int .i64 q0, .int .i64 q1, .int .i64 q2, .int .i64 q3, .int .i64 (u + 1 : Nat), .int .i64 q5, .int .i64 (q5 + G : Nat)] :: bytO 5 (some ⟨gb, 0, none⟩, c2, b) :: rowO 137 4 (.slice (some ⟨g3, 0, none⟩) (u + 1) c3) (u + 1) (rs.flatMap PRec.cells) :: rs.flatMap PRec.obs) xd) := Lib.hid (HX11.out.later hd)
  have HS := Lib.hid (HX11.out.later hd)
  refine lp 0 rfl (v := ?_) (fun w => ?_) (fun _ => HS.out) ?_
  rotate_left
  ·first | (go_simp; done) | (go_simp; with_reducible rfl)
  simp only [Act.put, ls1, ls2, ls3]
  refine lt_pure 1 rfl (by kernel_rfl) (by kernel_rfl) (by kernel_rfl) (by kernel_rfl) (fun _ _ _ h => h) (v := .pointer (some ⟨g4, 1, none⟩)) (yi_run rfl (fun w => by kernel_rfl)) (fun _ => HS.out) ?_
  simp only [Act.put, ls1, ls2, ls3]
  refine lq 2 [19, 21] rfl (yi_cell rfl rfl rfl (fun w hS => OW.cell hS (i := 0) (j := 1) rfl rfl) (fun w => Tryz.isAgg3 w)) HS.out ?_
  simp only [Act.put, ls1, ls2, ls3]
  refine lt_pure 3 rfl (by kernel_rfl) (by kernel_rfl) (by kernel_rfl) (by kernel_rfl) (fun _ _ _ h => h) (v := .pointer (some ⟨g4, 2, none⟩)) (yi_run rfl (fun w => by kernel_rfl)) (fun _ => HS.out) ?_
  simp only [Act.put, ls1, ls2, ls3]
  refine lq 4 [19, 21] rfl (yi_cell rfl rfl rfl (fun w hS => OW.cell hS (i := 0) (j := 2) rfl rfl) (fun w => Tryz.isAgg3 w)) HS.out ?_
  simp only [Act.put, ls1, ls2, ls3]
  refine lt_pure 5 rfl (by kernel_rfl) (by kernel_rfl) (by kernel_rfl) (by kernel_rfl) (fun _ _ _ h => h) (v := .pointer (some ⟨g4, 3, none⟩)) (yi_run rfl (fun w => by kernel_rfl)) (fun _ => HS.out) ?_
  simp only [Act.put, ls1, ls2, ls3]
  refine lq 6 [19, 21] rfl (yi_cell rfl rfl rfl (fun w hS => OW.cell hS (i := 0) (j := 3) rfl rfl) (fun w => Tryz.isAgg3 w)) HS.out ?_
  simp only [Act.put, ls1, ls2, ls3]
  refine lp 7 rfl (v := ?_) (fun w => ?_) (fun _ => HS.out) ?_
  rotate_left
  ·first | (go_simp; done) | (go_simp; with_reducible rfl)
  simp only [Act.put, ls1, ls2, ls3]
  refine lp 8 rfl (v := ?_) (fun w => ?_) (fun _ => HS.out) ?_
  rotate_left
  ·first | (go_simp; done) | (go_simp; with_reducible rfl)
  simp only [Act.put, ls1, ls2, ls3]
  refine lp 9 rfl (v := ?_) (fun w => ?_) (fun _ => HS.out) ?_
  rotate_left
  ·first | (go_simp; done) | (go_simp; with_reducible rfl)
  simp only [Act.put, ls1, ls2, ls3]
  refine lp 10 rfl (v := ?_) (fun w => ?_) (fun _ => HS.out) ?_
  rotate_left
  ·first | (go_simp; done) | (go_simp; with_reducible rfl)
  simp only [Act.put, ls1, ls2, ls3]
  refine lp 11 rfl (v := ?_) (fun w => ?_) (fun _ => HS.out) ?_
  rotate_left
  ·first | (go_simp; done) | (go_simp; with_reducible rfl)
  simp only [Act.put, ls1, ls2, ls3]
  refine lq 12 [19, 21] rfl (yi_cell rfl rfl rfl (fun w hS => prow_cell (g := g3) (m := u + 1) (c := c3) hS (by simp) HF1.out (j := 0) rfl) (fun w => Tryz.isAgg34 w)) HS.out ?_
  simp only [Act.put, ls1, ls2, ls3]
  refine lp 13 rfl (v := ?_) (fun w => ?_) (fun _ => HS.out) ?_
  rotate_left
  ·first | (go_simp; done) | (go_simp; with_reducible rfl)
  simp only [Act.put, ls1, ls2, ls3]
  refine lp 14 rfl (v := ?_) (fun w => ?_) (fun _ => HS.out) ?_
  rotate_left
  ·first | (go_simp; done) | (go_simp; with_reducible rfl)
  simp only [Act.put, ls1, ls2, ls3]
  refine lp 15 rfl (v := ?_) (fun w => ?_) (fun _ => HS.out) ?_
  rotate_left
  ·first | (go_simp; done) | (go_simp; with_reducible rfl)
  simp only [Act.put, ls1, ls2, ls3]
  refine lp 16 rfl (v := ?_) (fun w => ?_) (fun _ => HS.out) ?_
  rotate_left
  ·first | (go_simp; done) | (go_simp; with_reducible rfl)
  simp only [Act.put, ls1, ls2, ls3]
  refine lp 17 rfl (v := ?_) (fun w => ?_) (fun _ => HS.out) ?_
  rotate_left
  ·first | (go_simp; done) | (go_simp; with_reducible rfl)
  simp only [Act.put, ls1, ls2, ls3]
  refine lq 18 [19, 21] rfl (yi_cell rfl rfl rfl (fun w hS => prow_cell (g := g3) (m := u + 1) (c := c3) hS (by simp) HFN.out (j := 1) rfl) (fun w => Tryz.isAgg34 w)) HS.out ?_
  simp only [Act.put, ls1, ls2, ls3]
  refine lp 19 rfl (v := ?_) (fun w => ?_) (fun _ => HS.out) ?_
  rotate_left
  ·first | (go_simp; done) | (go_simp; with_reducible rfl)
  simp only [Act.put, ls1, ls2, ls3]
  refine lt_op 20 rfl (by kernel_rfl) rfl ?_
  refine wpo_alloc rfl [.int .i64 0, .int .i64 0, .int .i64 0, .int .i64 0, .int .i64 0, .int .i64 0, .slice none 0 0, .slice none 0 0] (.inl (by kernel_rfl)) HX12.out ?_
  intro g9 x13 hz _
  replace HX12 := Lib.hid (hz.perm (fr_perm _ _))
  replace HS := Lib.hid hz.left
  clear hz
  refine ⟨fun _ => HS.out, ?_⟩
  simp only [Act.put, ls1, ls2, ls3]
  refine lt_end 21 rfl (by kernel_rfl) rfl (by kernel_rfl) ?_
  refine wpo_put rfl HX12.out 0 rfl rfl [.int .i64 0, .int .i64 q0, .int .i64 q1, .int .i64 q2, .int .i64 q3, .int .i64 (q5 + G + H + 68 : Nat), .slice f1.A f1.p.a.length f1.c, .slice fn.B fn.p.b.length fn.d] rfl rfl (by kernel_rfl) (by simp [Value.oneCell']) ?_
  intro x14 hz _
  replace HX12 := Lib.hid hz
  clear hz
  simp only [Act.put]
  refine lt_done (by kernel_rfl) ?_
  clear HS
  have HE8 : Hid (OW w (boxO g9 [.int .i64 0, .int .i64 q0, .int .i64 q1, .int .i64 q2, .int .i64 q3, .int .i64 (q5 + G + H + 68 : Nat), .slice f1.A f1.p.a.length f1.c, .slice fn.B fn.p.b.length fn.d] :: (boxO g4 [.int .i64 q0, .int .i64 q1, .int .i64 q2, .int .i64 q3, .int .i64 (u + 1 : Nat), .int .i64 q5, .int .i64 (q5 + G : Nat)] :: bytO 5 (some ⟨gb, 0, none⟩, c2, b) :: rowO 137 4 (.slice (some ⟨g3, 0, none⟩) (u + 1) c3) (u + 1) (rs.flatMap PRec.cells) :: rs.flatMap PRec.obs)) _) := HX12
  clear HX12 HX11
  obtain ⟨q, hq⟩ : ∃ q : RunRec, q = ⟨0, gb, c2, some ⟨g3, 0, none⟩, c3, f1, fn, rs, q5, ⟨b, q0, q1, q2, q3, fl, l⟩⟩ := ⟨_, rfl⟩
  have HQC : Hid (∀ g, (({ q with g := g } : RunRec)).cells = [.slice (some ⟨gb, 0, none⟩) (q5 + G + H + 68) c2, .int .i64 0, .int .i64 q0, .int .i64 q1, .int .i64 q2, .int .i64 q3, .int .i64 (q5 + G + H + 68 : Nat), .slice f1.A f1.p.a.length f1.c, .slice fn.B fn.p.b.length fn.d, .slice (some ⟨g3, 0, none⟩) (u + 1) c3, .slice (some ⟨gb, q5, none⟩) m (c2 - q5)]) := Lib.hid fun g => by subst hq; unfold RunRec.cells; dsimp only; rw [HL.out, hfn, ← HM3.out]
  have HQ := Lib.hid hq
  clear hq
  have HOB : Hid (∀ g, (({ q with g := g } : RunRec)).obs = boxO g [.slice (some ⟨gb, 0, none⟩) (q5 + G + H + 68) c2, .int .i64 0, .int .i64 q0, .int .i64 q1, .int .i64 q2, .int .i64 q3, .int .i64 (q5 + G + H + 68 : Nat), .slice f1.A f1.p.a.length f1.c, .slice fn.B fn.p.b.length fn.d, .slice (some ⟨g3, 0, none⟩) (u + 1) c3, .slice (some ⟨gb, q5, none⟩) m (c2 - q5)] :: bytO 5 (some ⟨gb, 0, none⟩, c2, b) :: rowO 137 4 (.slice (some ⟨g3, 0, none⟩) (u + 1) c3) (u + 1) (rs.flatMap PRec.cells) :: rs.flatMap PRec.obs) := Lib.hid fun g => by unfold RunRec.obs; rw [HQC.out g, HQ.out]; dsimp only; rw [← HM3.out]
  have HOK : Hid (∀ g, (({ q with g := g } : RunRec)).Ok) := Lib.hid fun g => by
   rw [HQ.out]
   refine ⟨HRS.out, HF1.out, ?_, ?_, ?_⟩
   ·dsimp only; rw [← HM3.out]; exact HFN.out
   ·dsimp only; rw [hfn, HL.out]; exact ⟨HFL.out, by have := HMG.out; omega, by omega⟩
   ·dsimp only; rw [HL.out]; exact hn9
  go_wp2_with (first
   | (refine wl_rowR rfl 47 (.tmp 16) rfl rfl (HE8.out.range (i := 0) rfl) run_row ?_)
   | (refine wl_box rfl (.tmp 160) rfl [.slice (some ⟨gb, 0, none⟩) (q5 + G + H + 68) c2, .int .i64 0, .int .i64 q0, .int .i64 q1, .int .i64 q2, .int .i64 q3, .int .i64 (q5 + G + H + 68 : Nat), .slice f1.A f1.p.a.length f1.c, .slice fn.B fn.p.b.length fn.d, .slice (some ⟨g3, 0, none⟩) (u + 1) c3, .slice (some ⟨gb, q5, none⟩) m (c2 - q5)] (by kernel_rfl) HE8.out ?_; intro g6 x15 hz _; have HX15 := Lib.hid hz; clear hz))
  go_ret2
  refine .inl ⟨{ q with g := g6 }, ?_, ?_, HOK.out g6, rfl, ?_⟩
  ·rw [HQ.out]; exact HN.out
  ·rw [HQ.out]
  ·rw [HOB.out g6]
   exact ((HX15.out.perm (fr_perm _ _)).erase 1).erase 1
def REntP (b : List UInt8) (a : Nat) (key : List UInt8) (w : World) (r : Ending) (z : World) : Prop :=
  (rq1 b a key = none ∧ r = .returned (.tuple #[entV none 0 0 none 0 0 none 0 0 noEnt, .slice none 0 0, .int .i64 0, .bool false]) ∧ Below w.heap.size w z) ∨
  (∃ e k p A c B d D q KA kc, rq1 b a key = some (e, k, p) ∧ r = .returned (.tuple #[entV A e.row.length c B e.qual.length d D e.val.length q e, .slice KA k.length kc, .int .i64 (p : Nat), .bool true]) ∧
    OW w [bytO 5 (KA, kc, k), bytO 5 (A, c, e.row), bytO 5 (B, d, e.qual), bytO 5 (D, q, e.val)] z)
theorem REntP.no {b key : List UInt8} {a : Nat} {w z : World} {r : Ending} (h : REntP b a key w r z) (hq : rq1 b a key = none) : r = .returned (.tuple #[entV none 0 0 none 0 0 none 0 0 noEnt, .slice none 0 0, .int .i64 0, .bool false]) ∧ Below w.heap.size w z := by
  rcases h with ⟨_, h⟩ | ⟨e, k, p, A, c, B, d, D, q, KA, kc, h, _⟩
  · exact h
  · rw [hq] at h; cases h
def rowE (r : ER) : List Ob := [bytO 5 (r.A, r.c, r.e.row), bytO 5 (r.B, r.d, r.e.qual), bytO 5 (r.D, r.q, r.e.val)]
theorem rowE_snoc (rs : List ER) (r : ER) : (rs ++ [r]).flatMap rowE = rs.flatMap rowE ++ rowE r := by rw [List.flatMap_append, List.flatMap_cons, List.flatMap_nil, List.append_nil]
theorem cellE_snoc (rs : List ER) (r : ER) : (rs ++ [r]).flatMap ER.cells = rs.flatMap ER.cells ++ r.cells := by rw [List.flatMap_append, List.flatMap_cons, List.flatMap_nil, List.append_nil]
def entsO (A : Option Addr) (n c : Nat) (rs : List ER) : List Ob := rowO 60 7 (.slice A n c) n (rs.flatMap ER.cells) :: rs.flatMap rowE
theorem rowE_ens {w x : World} {os : List Ob} {A : Option Addr} {n c : Nat} {rs : List ER} (h : OW w (entsO A n c rs ++ os) x) : Ens x A n (rs.map ER.e) := by
  refine h.ens (T := 60) (i := 0) rfl fun r hr => ?_
  have hm : ∀ o, o ∈ rowE r → o ∈ entsO A n c rs ++ os := fun o ho => List.mem_append_left _ (List.mem_cons_of_mem _ (List.mem_flatMap.2 ⟨r, hr, ho⟩))
  exact ⟨h.slm (T := 5) (hm _ (by simp [rowE])) rfl, h.slm (T := 5) (hm _ (by simp [rowE])) rfl, h.slm (T := 5) (hm _ (by simp [rowE])) rfl⟩
end Go.Proofs.YtfdbcfaeiglbeaaGreatDoor
