/-
  Laid together by merge.py: BlockC1, BlockB3, BlockB4, BlockB5, BlockC2, BlockC3, BlockD1, BlockD2, BlockL3, BlockM2.
-/
import Derived.Test.YtmigjipfomfacaaDoorBu4
import Derived.Lib.Walk
import Derived.Lib.SliceRun
import Derived.Lib.AppendZerosOnto
import Derived.Test.YtmigjipfomfacaaDoorBu3
import Derived.Test.YtmigjipfomfacaaDoorBu2
import Derived.Test.YtmigjipfomfacaaDoorBu1
namespace Go.Proofs.YtmigjipfomfacaaDoor
open Go.RowKit
set_option maxRecDepth 100000 in
set_option maxHeartbeats 2000000 in
theorem sgrow_nil (n : Nat) (w : World) (hn : n ≤ 1099511627776) : Calls Tryd.prog 95 #[.slice none 0 0, .int .i64 n] w fun e w' => ∃ A c, e = .returned (.slice A 0 c) ∧ OwnB 5 w.heap.size w' A c [] ∧ Below w.heap.size w w' := by
  by_cases h0 : n = 0
  · subst h0
    go_enter Tryd.func95, Tryd.ntmps95
    go_wp2_with fail
    go_ret
    exact ⟨none, 0, rfl, own_nil _ _ _ _, Below.refl _ _⟩
  obtain ⟨i0, hi, hz0, hs0, hb0⟩ := info_parts (show (Tryd.prog.info? 5).map (fun i => (i.zero, i.size, i.bytes)) = some (some (.int .u8 0), 1, 1) by kernel_rfl)
  have hold : (Builtin.firstCells i0.size 0 (.slice none 0 0)).run Tryd.prog w.drew = .ok (([] : List Value).toArray) w.drew := by rw [hs0]; exact run_firstCells_none w.drew 1 0 0 0
  have hrz : ∀ ty, (Builtin.append_ #[24, 3] ty #[.slice none 0 0, .int .i64 (n : Int)]).run Tryd.prog w = .ok (.slice (some ⟨w.heap.size, 0, none⟩) n (grownCap w n 0 5)) (w.drew.alloc (.cells (#[] ++ Builtin.zeroCells #[.int .u8 0] n ++ Builtin.zeroCells #[.int .u8 0] (grownCap w n 0 5 - n)) 5)) := fun ty => by
    have h := Lib.run_append_grow_zeros w 24 3 ty 5 i0 (.int .u8 0) .i64 .i64 Tryd.underlying24 Tryd.underlying3 hi hz0 none 0 0 [] hold n (by omega) (by rw [hs0]; omega) (by omega) (by omega) (by rw [hb0]; omega) (by rw [hb0]; exact growslice_fits (by omega) (by omega))
    rw [Nat.zero_add] at h
    exact h
  have hGn : n ≤ grownCap w n 0 5 := grownCap_ge w _ _ _
  obtain ⟨G, hG⟩ : ∃ G, G = grownCap w n 0 5 := ⟨_, rfl⟩
  rw [← hG] at hrz hGn
  have hG63 : G ≤ 9223372036854775807 := by
    have := grownCap_le_maxLen w n 0 5 (by unfold maxLen; omega)
    rw [← hG] at this
    unfold maxLen at this
    omega
  have hgt : (0 : Int) < (n : Int) := by omega
  have HO : Hid ((w.alloc (.cells (Builtin.zeroCells #[.int .u8 0] n ++ Builtin.zeroCells #[.int .u8 0] (G - n)) 5)).drew.ownsRow w.heap.size 5 1 (.slice (some ⟨w.heap.size, 0, none⟩) 0 G) 0 []) := Lib.hid (World.ownsRow_made w _ G (Nat.le_refl _) (by unfold maxLen; omega) (by
    simp only [Array.size_append, size_zeroCells, List.size_toArray, List.length_nil, List.length_cons]; omega))
  clear hold hG h0
  go_enter Tryd.func95, Tryd.ntmps95
  go_wp2_with (at_builtin; refine Lib.wpList_append_run _ rfl _ _ _ _ rfl _ _ rfl rfl _ _ (hrz _) ?_)
  go_ret
  exact ⟨_, G, rfl, HO.out, ((Below.refl _ _).alloc (Nat.le_refl _) _).drew⟩
theorem flat_take1 {ks : List (List UInt8)} {k : Nat} {x : List UInt8} (h : ks[k]? = some x) : (ks.take (k + 1)).flatten = (ks.take k).flatten ++ x := by
  rw [take_snoc h, List.flatten_append]; simp
theorem flat_take_len (ks : List (List UInt8)) (k : Nat) : (ks.take k).flatten.length ≤ ks.flatten.length := by
  have e := congrArg (fun l => (List.flatten l).length) (List.take_append_drop k ks)
  simp only [List.flatten_append, List.length_append] at e
  omega
set_option maxRecDepth 100000 in
set_option maxHeartbeats 2000000 in
theorem sconcat_any (ks : List (List UInt8)) (A : Option Addr) (n c : Nat) (w : World) (hn : n ≤ 1000000000) (hr : RBs w w.heap.size A n ks) (hb : ks.flatten.length ≤ 1099511627776) :
    Calls Tryd.prog 81 #[.slice A n c] w (BytesPost 5 ks.flatten w) := by
  have HL := Lib.hid hr.len
  have HR : Hid (∀ z, Below w.heap.size w z → RBs z z.heap.size A n ks) := Lib.hid fun z h => hr.later h
  have HF : Hid (∀ k, (ks.take k).flatten.length ≤ 1099511627776) := Lib.hid fun k => Nat.le_trans (flat_take_len ks k) hb
  obtain ⟨N, hN⟩ : ∃ z, z = ks.flatten.length := ⟨_, rfl⟩
  rw [← hN] at hb
  have HN := Lib.hid hN
  clear hr hN
  go_enter Tryd.func81, Tryd.ntmps81
  go_wp2_with fail
  go_loop [3, 11] (fun s i => ∃ k t : Nat, k ≤ n ∧ t ≤ 1099511627776 ∧ i = .int .i64 k ∧ s = .int .i64 t ∧ Hid (t = (ks.take k).flatten.length)) (fun _ i => n - (intOf i).toNat)
  case atStart => exact ⟨0, 0, Nat.zero_le _, by omega, rfl, rfl, Lib.hid rfl⟩
  case round =>
    obtain ⟨k, t, hk, ht, rfl, rfl, HT⟩ := hrel
    by_cases hlt : k < n
    case pos =>
      have hdk : decide ((k : Int) < (n : Int)) = true := decide_eq_true (by omega)
      obtain ⟨b, o, x, a, ck, rfl, hbl, hx, hcell, _, _, _, _⟩ := (HR.out w (Below.refl _ _)).at_ hlt
      have HX := Lib.hid (flat_take1 hx)
      obtain ⟨m, hm⟩ : ∃ z, z = x.length := ⟨_, rfl⟩
      have hmb : t + m ≤ 1099511627776 := by have h1 := HF.out (k + 1); rw [HX.out, List.length_append, ← HT.out, ← hm] at h1; exact h1
      rw [← hm] at hcell
      have HM := Lib.hid hm
      have i1 : (0 : Int) ≤ (k : Int) := by omega
      have i2 : (k : Int) < (n : Int) := by omega
      have i3 : ¬ ((t : Int) + (m : Int) < 0) := by omega
      clear hx hm
      go_wp2_with fail
      go_round
      case rel => exact ⟨k + 1, t + m, by omega, hmb, by go_num, rfl, Lib.hid (by rw [HX.out, List.length_append, ← HT.out, ← HM.out])⟩
      case measure => simp [intOf]; omega
    have hdk : decide ((k : Int) < (n : Int)) = false := decide_eq_false (by omega)
    have HTN : Hid (t = N) := Lib.hid (by rw [HT.out, HN.out, take_all (by have := HL.out; omega)])
    go_wp2_with (go_at_call 95; go_must (refine (sgrow_nil t _ ht).mono ?_); rintro r z1 ⟨A1, c1, rfl, ho, hb1⟩; have HX := Lib.hid (OW.byt1 hb1 ho); clear ho hb1)
    go_loopw [6, 27] (fun v i wr => ∃ (k : Nat) (A : Option Addr) (c m : Nat) (l : List UInt8), k ≤ n ∧ m ≤ 1099511627776 ∧ i = .int .i64 k ∧ v = .slice A m c ∧ Hid (l.length = m) ∧ Hid (l = (ks.take k).flatten) ∧ Hid (OW w [bytO 5 (A, c, l)] wr)) (fun _ i _ => n - (intOf i).toNat)
    case atStart => exact ⟨0, A1, c1, 0, [], Nat.zero_le _, by omega, rfl, rfl, Lib.hid rfl, Lib.hid rfl, HX⟩
    case round =>
      clear HX
      obtain ⟨k2, A2, c2, m2, l2, hk2, hm2, rfl, rfl, HL2, HP2, HX⟩ := hrel
      by_cases hlt2 : k2 < n
      case pos =>
        have hdk2 : decide ((k2 : Int) < (n : Int)) = true := decide_eq_true (by omega)
        obtain ⟨b, o, x, a, ck, rfl, hbl, hx, hcell, _, _, _, hrb⟩ := (HR.out wr HX.out.up).at_ hlt2
        have HQ := Lib.hid (flat_take1 hx)
        obtain ⟨m, hm⟩ : ∃ z, z = x.length := ⟨_, rfl⟩
        have hmb : m2 + m ≤ 1099511627776 := by have h1 := HF.out (k2 + 1); rw [HQ.out, List.length_append, ← HP2.out, ← hm, HL2.out] at h1; exact h1
        rw [← hm] at hcell hrb
        have HM := Lib.hid hm
        have HRB := Lib.hid hrb
        have i1 : (0 : Int) ≤ (k2 : Int) := by omega
        have i2 : (k2 : Int) < (n : Int) := by omega
        clear hx hm hrb
        go_wp2_with (at_builtin; go_must (refine wl_appB rfl (.tmp 31) (.tmp 32) rfl Tryd.u8s' HX.out 0 rfl HL2.out rfl _ _ m _ x rfl HRB.out (by omega) ?_); intro A3 c3 z3 hz; have HX3 : Hid (OW w [bytO 5 (A3, c3, l2 ++ x)] z3) := Lib.hid hz; clear hz HX HRB hcell)
        go_roundw
        case rel => exact ⟨k2 + 1, A3, c3, m2 + m, l2 ++ x, by omega, hmb, by go_num, rfl, Lib.hid (by rw [List.length_append, HL2.out, HM.out]), Lib.hid (by rw [HQ.out, HP2.out]), HX3⟩
        case measure => simp [intOf]; omega
      have hdk2 : decide ((k2 : Int) < (n : Int)) = false := decide_eq_false (by omega)
      go_wp2_with fail
      go_ret
      exact HX.out.bytes1 (by rw [HP2.out, take_all (by have := HL.out; omega)]) HL2.out rfl
theorem rbs_two {w : World} {A B : Option Addr} {n c m d : Nat} {k l : List UInt8} (hk : Sl w A n c k) (hl : Sl w B m d l) (t : TypeId) (fr : Nat × Nat) :
    RBs (w.alloc (.cells #[.slice A n c, .slice B m d] t fr)) (w.alloc (.cells #[.slice A n c, .slice B m d] t fr)).heap.size (some ⟨w.heap.size, 0, none⟩) 2 [k, l] := by
  have hb : Below w.heap.size w (w.alloc (.cells #[.slice A n c, .slice B m d] t fr)) := (Below.refl _ _).alloc (Nat.le_refl _) _
  have h1 := hk.later hb
  have h2 := hl.later hb
  have e1 := hk.rb.len
  have e2 := hl.rb.len
  refine ⟨[.slice A n c, .slice B m d], ⟨rfl, fun _ => ⟨w.heap.size, 0, rfl, by simp, fun j u hu => ?_⟩⟩, rfl, fun i x hx => ?_⟩
  · rw [Nat.zero_add, World.cell?_alloc_mark, ← Array.getElem?_toList]; exact hu
  · match i, hx with
    | 0, hx => injection hx with hx; subst hx; exact ⟨A, c, by rw [e1]; rfl, by rw [e1]; exact h1.cap, h1.lim, h1.nil, by rw [e1]; exact h1.rb⟩
    | 1, hx => injection hx with hx; subst hx; exact ⟨B, d, by rw [e2]; rfl, by rw [e2]; exact h2.cap, h2.lim, h2.nil, by rw [e2]; exact h2.rb⟩
end Go.Proofs.YtmigjipfomfacaaDoor
namespace Go.Proofs.YtmigjipfomfacaaDoor
open Go.RowKit
theorem Tryd.intS5 : SliceOf Tryd.prog 101 3 1 8 := SliceOf.mk' (z := .int .i64 0) Tryd.underlying101 (by kernel_rfl) rfl (by decide)
theorem uintB_le10 {n : Nat} (h : n < 18446744073709551616) : (uintB n).length ≤ 10 := uintB_len 9 n (Nat.lt_of_lt_of_le h (by decide))
theorem ent_row5 : RowTy Tryd.prog 37 7 := ⟨⟨_, Tryd.underlying37, rfl⟩, by kernel_rfl⟩
theorem last_range {w z : World} {os : List Ob} {i R g : Nat} {bv pv kv : Value} {A B : Option Addr} {n c m d N : Nat} {e : Ent} (h : OW w os z) (hi : os[i]? = some (boxO g (bldC R bv pv A n c B m d e kv N))) :
    z.rangeAt g 3 [.slice A n c, .int .i64 e.fam, .slice B m d, .int .i64 e.ts, .int .i64 e.seq, .int .i64 e.kind, .slice none 0 0] := fun j v hj => by
  match j, hj with
  | 0, hj => exact h.cell (j := 3) hi hj
  | 1, hj => exact h.cell (j := 4) hi hj
  | 2, hj => exact h.cell (j := 5) hi hj
  | 3, hj => exact h.cell (j := 6) hi hj
  | 4, hj => exact h.cell (j := 7) hi hj
  | 5, hj => exact h.cell (j := 8) hi hj
  | 6, hj => exact h.cell (j := 9) hi hj
def AddP (w : World) (R : Nat) (L : List Ent) (g : Nat) (rest : List Ob) (e : Ent) (r : Ending) (z : World) : Prop :=
  r = .returned (.int .i64 (addC R L e)) ∧ ∃ os', Bld R (addL R L e) g os' ∧ OW w (os' ++ rest) z
set_option maxRecDepth 100000 in
set_option maxHeartbeats 4000000 in
theorem add_any {w x : World} {R g : Nat} {L : List Ent} {os rest : List Ob} (hb : Bld R L g os) (h : OW w (os ++ rest) x) (e : Ent) (A : Option Addr) (n c : Nat) (B : Option Addr) (m d : Nat) (D : Option Addr) (v q : Nat) (HE : ∀ us z, OW w (us ++ rest) z → En z A n c B m d D v q e) :
    Calls Tryd.prog 23 #[.pointer (some ⟨g, 0, none⟩), entV A n c B m d D v q e] x (AddP w R L g rest e) := by
  obtain ⟨hR, hsz, hkl, hall, mm, rfl, hlast⟩ := hb
  have HEE := Lib.hid HE
  have HX := Lib.hid h
  have HRR := Lib.hid hR
  have HSZ := Lib.hid hsz
  have HKL := Lib.hid hkl
  have HLA := Lib.hid hlast
  have HALL := Lib.hid hall
  clear h HE hR hsz hkl hlast hall
  by_cases hc : checkE e = 0
  case neg =>
    obtain ⟨ce, hce⟩ : ∃ z, z = checkE e := ⟨_, rfl⟩
    have HK : Hid (KeyE e = ([], ce)) := Lib.hid (by unfold KeyE; rw [if_neg hc, hce])
    have HP : Hid (addC R L e = ce ∧ addL R L e = L) := Lib.hid (by
      have h : addC R L e = ce := by unfold addC; rw [if_pos hc, hce]
      exact ⟨h, by unfold addL; rw [h, if_neg (by rw [hce]; exact hc)]⟩)
    rw [← hce] at hc
    clear hce
    have hd : (ce == 0) = false := beq_eq_false_iff_ne.2 hc
    go_enter Tryd.func23, Tryd.ntmps23
    have tk : True := trivial
    go_wp2_with (first
      | (refine wl_box rfl (.tmp 1) rfl [.slice A n c, .int .i64 e.fam, .slice B m d, .int .i64 e.ts, .int .i64 e.seq, .int .i64 e.kind, .slice D v q] rfl (OW.nil _) ?_; intro gb x1 hz _; replace HX := Lib.hid (HX.out.addF9 hz); clear hz)
      | (refine wpList_load_row7 rfl 37 (.tmp 3) rfl rfl (HX.out.range (i := 0) rfl) ent_row5 ?_)
      | (go_at_call 18; have _t := tk; go_must (refine (key_any e A n c B m d D v q _ (HEE.out (boxO gb [.slice A n c, .int .i64 e.fam, .slice B m d, .int .i64 e.ts, .int .i64 e.seq, .int .i64 e.kind, .slice D v q] :: bldO R g (runB R L) mm) _ HX.out)).mono ?_); rw [HK.out]; rintro r y1 hp; obtain ⟨Ak, ck, rfl, _, ho, hb⟩ := hp.at_ (n := 0) rfl rfl; replace HX := Lib.hid (HX.out.addF9 (OW.byt1 hb ho)); clear hp ho hb tk))
    go_ret
    exact ⟨by rw [HP.out.1]; rfl, bldO R g (runB R L) mm, by rw [HP.out.2]; exact ⟨HRR.out, HSZ.out, HKL.out, HALL.out, mm, rfl, HLA.out⟩, HX.out.sub (((List.Sublist.refl _).cons _).cons _)⟩
  have HOK := Lib.hid (ok_of hc)
  have hkn0 := keyE_len HOK.out
  obtain ⟨kb, hkb⟩ : ∃ z, z = keyE e := ⟨_, rfl⟩
  have HK : Hid (KeyE e = (kb, 0)) := Lib.hid (by unfold KeyE; rw [if_pos hc, hkb])
  rw [← hkb] at hkn0
  obtain ⟨kn, hkn⟩ : ∃ z, z = kb.length := ⟨_, rfl⟩
  rw [← hkn] at hkn0
  have HKB := Lib.hid hkb
  have HKN := Lib.hid hkn.symm
  have HC := Lib.hid hc
  clear hkb hkn hc
  obtain ⟨s, hs⟩ : ∃ z, z = runB R L := ⟨_, rfl⟩
  rw [← hs] at HX HSZ HKL
  obtain ⟨N, hN⟩ : ∃ z, z = s.n := ⟨_, rfl⟩
  have HNL : Hid (N = L.length) := Lib.hid (by rw [hN, hs, runB_n])
  have HS0 := Lib.hid hs
  have HN := Lib.hid hN
  clear hs hN
  obtain ⟨bo, hbo⟩ : ∃ z : Bool, z = !lastOk L e := ⟨_, rfl⟩
  have HBO := Lib.hid hbo
  clear hbo
  go_enter Tryd.func23, Tryd.ntmps23
  have tk : True := trivial
  go_upto_region 4 with (first
    | (refine wl_box rfl (.tmp 1) rfl [.slice A n c, .int .i64 e.fam, .slice B m d, .int .i64 e.ts, .int .i64 e.seq, .int .i64 e.kind, .slice D v q] rfl (OW.nil _) ?_; intro gb x1 hz _; replace HX := Lib.hid (HX.out.addF9 hz); clear hz)
    | (refine wpList_load_row7 rfl 37 (.tmp 3) rfl rfl (HX.out.range (i := 0) rfl) ent_row5 ?_)
    | (go_at_call 18; have _t := tk; go_must (refine (key_any e A n c B m d D v q _ (HEE.out (boxO gb [.slice A n c, .int .i64 e.fam, .slice B m d, .int .i64 e.ts, .int .i64 e.seq, .int .i64 e.kind, .slice D v q] :: bldO R g s mm) _ HX.out)).mono ?_); rw [HK.out]; rintro r y1 hp; obtain ⟨Ak, ck, rfl, _, ho, hb⟩ := hp.at_ (n := kn) HKN.out rfl; replace HX := Lib.hid (HX.out.addF9 (OW.byt1 hb ho)); clear hp ho hb tk))
  have HX : Hid (OW w (bytO 5 (Ak, ck, kb) :: boxO gb [.slice A n c, .int .i64 e.fam, .slice B m d, .int .i64 e.ts, .int .i64 e.seq, .int .i64 e.kind, .slice D v q] :: (bldO R g s mm ++ rest)) y1) := HX
  have HCN : Hid (∀ z, OW w (bytO 5 (Ak, ck, kb) :: boxO gb [.slice A n c, .int .i64 e.fam, .slice B m d, .int .i64 e.ts, .int .i64 e.seq, .int .i64 e.kind, .slice D v q] :: (bldO R g s mm ++ rest)) z → z.cell? ⟨g, 11, none⟩ = some (.int .i64 (N : Int))) := Lib.hid fun z hz => by rw [HN.out]; exact hz.cell (i := 2) (j := 11) rfl rfl
  go_cut [32] (fun b wx => b = .bool bo ∧ Hid (OW w (bytO 5 (Ak, ck, kb) :: boxO gb [.slice A n c, .int .i64 e.fam, .slice B m d, .int .i64 e.ts, .int .i64 e.seq, .int .i64 e.kind, .slice D v q] :: (bldO R g s mm ++ rest)) wx))
  case first =>
    cases hg : L.getLast? with
    | none =>
      have hN0 : N = 0 := by rw [HNL.out, List.getLast?_eq_none_iff.1 hg]; rfl
      have hb0 : bo = false := by rw [HBO.out]; unfold lastOk; rw [hg]; rfl
      have hd : decide ((N : Int) > 0) = false := decide_eq_false (by omega)
      have hd' : ¬ (0 : Int) < (N : Int) := by omega
      clear hg
      refine lt_start [] (by kernel_rfl) ?_
      intro xd hd0
      refine ⟨fun z => OW w (bytO 5 (Ak, ck, kb) :: boxO gb [.slice A n c, .int .i64 e.fam, .slice B m d, .int .i64 e.ts, .int .i64 e.seq, .int .i64 e.kind, .slice D v q] :: (bldO R g s mm ++ rest)) z, ?_⟩
      have HS := Lib.hid (HX.out.later hd0)
      refine lt_pure 0 rfl (by kernel_rfl) (by kernel_rfl) (by kernel_rfl) (by kernel_rfl) (fun _ _ _ h => h) (v := ?_) (yi_run rfl (fun w => ?_)) (fun _ => HS.out) ?_
      rotate_left
      · first | (go_simp; done) | (go_simp; with_reducible rfl)
      simp only [Act.put, List.setIfInBounds_toArray, List.set_cons_zero, List.set_cons_succ]
      refine lt_pure 1 rfl (by kernel_rfl) (by kernel_rfl) (by kernel_rfl) (by kernel_rfl) (fun _ _ _ h => h) (v := ?_) (yi_run rfl (fun w => ?_)) (fun _ => HS.out) ?_
      rotate_left
      · first | (go_simp; done) | (go_simp; with_reducible rfl)
      simp only [Act.put, List.setIfInBounds_toArray, List.set_cons_zero, List.set_cons_succ]
      refine lt_pure 2 rfl (by kernel_rfl) (by kernel_rfl) (by kernel_rfl) (by kernel_rfl) (fun _ _ _ h => h) (v := ?_) (yi_run rfl (fun w => ?_)) (fun _ => HS.out) ?_
      rotate_left
      · first | (go_simp; done) | (go_simp; with_reducible rfl)
      simp only [Act.put, List.setIfInBounds_toArray, List.set_cons_zero, List.set_cons_succ]
      refine lt_take 3 [4, 5, 6, 7, 8, 9, 10, 11, 12, 13] rfl (by kernel_rfl) (by kernel_rfl) (by kernel_rfl) (by kernel_rfl) (by kernel_rfl) (fun _ _ _ h => h) (yi_cell rfl rfl rfl (fun w hS => HCN.out w hS) (fun w => Tryd.isAgg3 w)) HS.out ?_
      simp only [Act.put, List.setIfInBounds_toArray, List.set_cons_zero, List.set_cons_succ]
      refine lt_pure 4 rfl (by kernel_rfl) (by kernel_rfl) (by kernel_rfl) (by kernel_rfl) (fun _ _ _ h => h) (v := ?_) (yi_run rfl (fun w => ?_)) (fun _ => HS.out) ?_
      rotate_left
      · first | (go_simp; done) | (go_simp; with_reducible rfl)
      simp only [Act.put, List.setIfInBounds_toArray, List.set_cons_zero, List.set_cons_succ]
      refine lt_pure 5 rfl (by kernel_rfl) (by kernel_rfl) (by kernel_rfl) (by kernel_rfl) (fun _ _ _ h => h) (v := ?_) (yi_run rfl (fun w => ?_)) (fun _ => HS.out) ?_
      rotate_left
      · first | (go_simp; done) | (go_simp; with_reducible rfl)
      simp only [Act.put, List.setIfInBounds_toArray, List.set_cons_zero, List.set_cons_succ]
      refine lt_skip 6 rfl (by kernel_rfl) (by kernel_rfl) (by kernel_rfl) (by kernel_rfl) (fun _ _ _ h => h) rfl (fun _ => HS.out) ?_
      simp only [Act.put, List.setIfInBounds_toArray, List.set_cons_zero, List.set_cons_succ]
      refine lt_skip 7 rfl (by kernel_rfl) (by kernel_rfl) (by kernel_rfl) (by kernel_rfl) (fun _ _ _ h => h) rfl (fun _ => HS.out) ?_
      simp only [Act.put, List.setIfInBounds_toArray, List.set_cons_zero, List.set_cons_succ]
      refine lt_skip 8 rfl (by kernel_rfl) (by kernel_rfl) (by kernel_rfl) (by kernel_rfl) (fun _ _ _ h => h) rfl (fun _ => HS.out) ?_
      simp only [Act.put, List.setIfInBounds_toArray, List.set_cons_zero, List.set_cons_succ]
      refine lt_skip 9 rfl (by kernel_rfl) (by kernel_rfl) (by kernel_rfl) (by kernel_rfl) (fun _ _ _ h => h) rfl (fun _ => HS.out) ?_
      simp only [Act.put, List.setIfInBounds_toArray, List.set_cons_zero, List.set_cons_succ]
      refine lt_skip 10 rfl (by kernel_rfl) (by kernel_rfl) (by kernel_rfl) (by kernel_rfl) (fun _ _ _ h => h) rfl (fun _ => HS.out) ?_
      simp only [Act.put, List.setIfInBounds_toArray, List.set_cons_zero, List.set_cons_succ]
      refine lt_skip 11 rfl (by kernel_rfl) (by kernel_rfl) (by kernel_rfl) (by kernel_rfl) (fun _ _ _ h => h) rfl (fun _ => HS.out) ?_
      simp only [Act.put, List.setIfInBounds_toArray, List.set_cons_zero, List.set_cons_succ]
      refine lt_skip 12 rfl (by kernel_rfl) (by kernel_rfl) (by kernel_rfl) (by kernel_rfl) (fun _ _ _ h => h) rfl (fun _ => HS.out) ?_
      simp only [Act.put, List.setIfInBounds_toArray, List.set_cons_zero, List.set_cons_succ]
      refine lt_pure 13 rfl (by kernel_rfl) (by kernel_rfl) (by kernel_rfl) (by kernel_rfl) (fun _ _ _ h => h) (v := ?_) (yi_run rfl (fun w => ?_)) (fun _ => HS.out) ?_
      rotate_left
      · first | (go_simp; done) | (go_simp; with_reducible rfl)
      simp only [Act.put, List.setIfInBounds_toArray, List.set_cons_zero, List.set_cons_succ]
      refine lt_done (by kernel_rfl) ?_
      have HS9 := HS
      clear HS
      have HXD := Lib.hid HS9.out
      go_wp2_with fail
      go_meet
      exact ⟨by rw [hb0], HXD⟩
    | some l =>
      have hl := HLA.out l hg
      have hN0 : 0 < N := by rw [HNL.out]; exact List.length_pos_iff.2 (fun e' => by rw [e'] at hg; cases hg)
      have HV : Hid (mm.e.val = []) := Lib.hid (by rw [hl])
      obtain ⟨cv, hcv⟩ : ∃ z, z = cmpE mm.e e := ⟨_, rfl⟩
      have HCV := Lib.hid hcv
      have hbo : bo = decide (cv ≥ 0) := by
        have h1 : cmpE mm.e e = cmpE l e := by rw [hl]; rfl
        rw [HBO.out, hcv, h1]; unfold lastOk; rw [hg]
        by_cases h : cmpE l e < 0
        · simp [h, Int.not_le.2 h]
        · simp [h, Int.not_lt.1 h]
      have hd : decide ((N : Int) > 0) = true := decide_eq_true (by omega)
      have hd' : (0 : Int) < (N : Int) := by omega
      clear hg hl hcv
      refine lt_start [] (by kernel_rfl) ?_
      intro xd hd0
      refine ⟨fun z => OW w (bytO 5 (Ak, ck, kb) :: boxO gb [.slice A n c, .int .i64 e.fam, .slice B m d, .int .i64 e.ts, .int .i64 e.seq, .int .i64 e.kind, .slice D v q] :: (bldO R g s mm ++ rest)) z, ?_⟩
      have HS := Lib.hid (HX.out.later hd0)
      refine lt_pure 0 rfl (by kernel_rfl) (by kernel_rfl) (by kernel_rfl) (by kernel_rfl) (fun _ _ _ h => h) (v := ?_) (yi_run rfl (fun w => ?_)) (fun _ => HS.out) ?_
      rotate_left
      · first | (go_simp; done) | (go_simp; with_reducible rfl)
      simp only [Act.put, List.setIfInBounds_toArray, List.set_cons_zero, List.set_cons_succ]
      refine lt_pure 1 rfl (by kernel_rfl) (by kernel_rfl) (by kernel_rfl) (by kernel_rfl) (fun _ _ _ h => h) (v := ?_) (yi_run rfl (fun w => ?_)) (fun _ => HS.out) ?_
      rotate_left
      · first | (go_simp; done) | (go_simp; with_reducible rfl)
      simp only [Act.put, List.setIfInBounds_toArray, List.set_cons_zero, List.set_cons_succ]
      refine lt_pure 2 rfl (by kernel_rfl) (by kernel_rfl) (by kernel_rfl) (by kernel_rfl) (fun _ _ _ h => h) (v := ?_) (yi_run rfl (fun w => ?_)) (fun _ => HS.out) ?_
      rotate_left
      · first | (go_simp; done) | (go_simp; with_reducible rfl)
      simp only [Act.put, List.setIfInBounds_toArray, List.set_cons_zero, List.set_cons_succ]
      refine lt_take 3 [4, 5, 6, 7, 8, 9, 10, 11, 12, 13] rfl (by kernel_rfl) (by kernel_rfl) (by kernel_rfl) (by kernel_rfl) (by kernel_rfl) (fun _ _ _ h => h) (yi_cell rfl rfl rfl (fun w hS => HCN.out w hS) (fun w => Tryd.isAgg3 w)) HS.out ?_
      simp only [Act.put, List.setIfInBounds_toArray, List.set_cons_zero, List.set_cons_succ]
      refine lt_pure 4 rfl (by kernel_rfl) (by kernel_rfl) (by kernel_rfl) (by kernel_rfl) (fun _ _ _ h => h) (v := ?_) (yi_run rfl (fun w => ?_)) (fun _ => HS.out) ?_
      rotate_left
      · first | (go_simp; done) | (go_simp; with_reducible rfl)
      simp only [Act.put, List.setIfInBounds_toArray, List.set_cons_zero, List.set_cons_succ]
      refine lt_pure 5 rfl (by kernel_rfl) (by kernel_rfl) (by kernel_rfl) (by kernel_rfl) (fun _ _ _ h => h) (v := ?_) (yi_run rfl (fun w => ?_)) (fun _ => HS.out) ?_
      rotate_left
      · first | (go_simp; done) | (go_simp; with_reducible rfl)
      simp only [Act.put, List.setIfInBounds_toArray, List.set_cons_zero, List.set_cons_succ]
      refine lt_pure 6 rfl (by kernel_rfl) (by kernel_rfl) (by kernel_rfl) (by kernel_rfl) (fun _ _ _ h => h) (v := ?_) (yi_run rfl (fun w => ?_)) (fun _ => HS.out) ?_
      rotate_left
      · first | (go_simp; done) | (go_simp; with_reducible rfl)
      simp only [Act.put, List.setIfInBounds_toArray, List.set_cons_zero, List.set_cons_succ]
      refine lt_pure 7 rfl (by kernel_rfl) (by kernel_rfl) (by kernel_rfl) (by kernel_rfl) (fun _ _ _ h => h) (v := ?_) (yi_run rfl (fun w => ?_)) (fun _ => HS.out) ?_
      rotate_left
      · first | (go_simp; done) | (go_simp; with_reducible rfl)
      simp only [Act.put, List.setIfInBounds_toArray, List.set_cons_zero, List.set_cons_succ]
      refine lt_pure 8 rfl (by kernel_rfl) (by kernel_rfl) (by kernel_rfl) (by kernel_rfl) (fun _ _ _ h => h) (v := ?_) (yi_run rfl (fun w => ?_)) (fun _ => HS.out) ?_
      rotate_left
      · first | (go_simp; done) | (go_simp; with_reducible rfl)
      simp only [Act.put, List.setIfInBounds_toArray, List.set_cons_zero, List.set_cons_succ]
      refine lt_take 9 [11, 12, 13] rfl (by kernel_rfl) (by kernel_rfl) (by kernel_rfl) (by kernel_rfl) (by kernel_rfl) (fun _ _ _ h => h) (yi_rowO rfl rfl rfl (fun w hS => last_range hS (i := 2) rfl) ent_row5) HS.out ?_
      simp only [Act.put, List.setIfInBounds_toArray, List.set_cons_zero, List.set_cons_succ]
      refine lt_take 10 [11, 12, 13] rfl (by kernel_rfl) (by kernel_rfl) (by kernel_rfl) (by kernel_rfl) (by kernel_rfl) (fun _ _ _ h => h) (yi_row rfl rfl rfl (fun w hS => OW.range hS (i := 1) rfl) ent_row5) HS.out ?_
      simp only [Act.put, List.setIfInBounds_toArray, List.set_cons_zero, List.set_cons_succ]
      refine lt_call 11 rfl (by kernel_rfl) rfl rfl ⟨_, Tryd.func61, by decide, by kernel_rfl⟩ [entV mm.A mm.e.row.length mm.ac mm.Q mm.e.qual.length mm.qc none 0 0 mm.e, entV A n c B m d D v q e] rfl ?_
      refine (compare_any mm.e e mm.A mm.e.row.length mm.ac mm.Q mm.e.qual.length mm.qc none 0 0 A n c B m d D v q _ ⟨HS.out.sl (i := 5) rfl rfl, HS.out.sl (i := 6) rfl rfl, by rw [HV.out]; exact Sl.none _⟩ (HEE.out (bytO 5 (Ak, ck, kb) :: boxO gb [.slice A n c, .int .i64 e.fam, .slice B m d, .int .i64 e.ts, .int .i64 e.seq, .int .i64 e.kind, .slice D v q] :: bldO R g s mm) _ HS.out)).mono ?_
      rw [← HCV.out]
      rintro r z9 ⟨rfl, hb⟩
      replace HS := Lib.hid (HS.out.later hb)
      clear hb
      refine ⟨_, rfl, fun _ => HS.out, ?_⟩
      simp only [Act.put, List.setIfInBounds_toArray, List.set_cons_zero, List.set_cons_succ]
      refine lt_pure 12 rfl (by kernel_rfl) (by kernel_rfl) (by kernel_rfl) (by kernel_rfl) (fun _ _ _ h => h) (v := ?_) (yi_run rfl (fun w => ?_)) (fun _ => HS.out) ?_
      rotate_left
      · first | (go_simp; done) | (go_simp; with_reducible rfl)
      simp only [Act.put, List.setIfInBounds_toArray, List.set_cons_zero, List.set_cons_succ]
      refine lt_pure 13 rfl (by kernel_rfl) (by kernel_rfl) (by kernel_rfl) (by kernel_rfl) (fun _ _ _ h => h) (v := ?_) (yi_run rfl (fun w => ?_)) (fun _ => HS.out) ?_
      rotate_left
      · first | (go_simp; done) | (go_simp; with_reducible rfl)
      simp only [Act.put, List.setIfInBounds_toArray, List.set_cons_zero, List.set_cons_succ]
      refine lt_done (by kernel_rfl) ?_
      have HS9 := HS
      clear HS
      have HXD := Lib.hid HS9.out
      go_wp2_with fail
      go_meet
      exact ⟨by rw [hbo], HXD⟩
  clear HX
  obtain ⟨rfl, HX⟩ := hcut
  obtain ⟨w4, rfl⟩ : ∃ z : World, z = wc := ⟨_, rfl⟩
  by_cases hlo : lastOk L e = false
  case pos =>
    have hb1 : bo = true := by rw [HBO.out, hlo]; rfl
    have HP : Hid (addC R L e = 30 ∧ addL R L e = L) := Lib.hid (by
      have h : addC R L e = 30 := by unfold addC; rw [if_neg (fun h => h HC.out), if_pos hlo]
      exact ⟨h, by unfold addL; rw [h, if_neg (by decide)]⟩)
    clear HBO hlo
    subst hb1
    go_wp2_with fail
    go_ret
    exact ⟨by rw [HP.out.1]; rfl, bldO R g s mm, by rw [HP.out.2]; exact ⟨HRR.out, by rw [← HS0.out]; exact HSZ.out, by rw [← HS0.out]; exact HKL.out, HALL.out, mm, by rw [← HS0.out], HLA.out⟩, HX.out.sub (((List.Sublist.refl _).cons _).cons _)⟩
  have hb1 : bo = false := by rw [HBO.out]; cases h : lastOk L e <;> simp_all
  have HLO := Lib.hid hlo
  clear HBO hlo
  subst hb1
  obtain ⟨al, hal⟩ : ∃ z, z = alikeB R s kb := ⟨_, rfl⟩
  obtain ⟨fb, hfb⟩ : ∃ b : Bool, b = decide (N % R = 0) := ⟨_, rfl⟩
  have HAL := Lib.hid hal
  have HFB := Lib.hid hfb
  clear hal hfb
  have hR1 := HRR.out.1
  have hR2 := HRR.out.2
  have r0 : ((R : Int) == 0) = false := beq_eq_false_iff_ne.2 (by omega)
  have r1 : ¬ R = 0 := by omega
  have HCR : Hid (∀ z, OW w (bytO 5 (Ak, ck, kb) :: boxO gb [.slice A n c, .int .i64 e.fam, .slice B m d, .int .i64 e.ts, .int .i64 e.seq, .int .i64 e.kind, .slice D v q] :: (bldO R g s mm ++ rest)) z → z.cell? ⟨g, 0, none⟩ = some (.int .i64 (R : Int))) := Lib.hid fun z hz => hz.cell (i := 2) (j := 0) rfl rfl
  have HNB : Hid (N ≤ 131072) := Lib.hid (by have h1 := n_le_size _ (runB_many R L); rw [← HS0.out] at h1; have := HSZ.out; have := HN.out; omega)
  have hnb := HNB.out
  go_upto_region 6 with fail
  go_cut [7] (fun f wx => f = .bool fb ∧ Hid (OW w (bytO 5 (Ak, ck, kb) :: boxO gb [.slice A n c, .int .i64 e.fam, .slice B m d, .int .i64 e.ts, .int .i64 e.seq, .int .i64 e.kind, .slice D v q] :: (bldO R g s mm ++ rest)) wx))
  case first =>
    have c1 := HCN.out _ HX.out
    have c2 := HCR.out _ HX.out
    by_cases hf : N % R = 0
    · have hb1 : fb = true := by rw [HFB.out]; exact decide_eq_true hf
      have e1 : ((N : Int).tmod (R : Int)) = 0 := by rw [← Int.ofNat_tmod, hf]; rfl
      have e2 : ((N : Int) % (R : Int)) = 0 := by rw [← Int.natCast_emod, hf]; rfl
      go_wp2_with fail
      go_quiet (fail)
      have HXD := Lib.hid (HX.out.later (below_drewN (n := nq) (Below.refl _ _)))
      clear c1 c2
      generalize w4.drewN nq = w5 at *
      go_wp2
      go_meet
      exact ⟨by rw [hb1], HXD⟩
    · have hb1 : fb = false := by rw [HFB.out]; exact decide_eq_false hf
      have e1 : ¬ ((N : Int).tmod (R : Int)) = 0 := by rw [← Int.ofNat_tmod]; omega
      have e3 : (((N : Int).tmod (R : Int)) == 0) = false := beq_eq_false_iff_ne.2 e1
      have e2 : ¬ ((N : Int) % (R : Int)) = 0 := by rw [← Int.natCast_emod]; omega
      have e4 : (((N : Int) % (R : Int)) == 0) = false := beq_eq_false_iff_ne.2 e2
      go_wp2_with fail
      go_quiet (fail)
      have HXD := Lib.hid (HX.out.later (below_drewN (n := nq) (Below.refl _ _)))
      clear c1 c2
      generalize w4.drewN nq = w5 at *
      go_wp2
      go_meet
      exact ⟨by rw [hb1], HXD⟩
  clear HX
  obtain ⟨rfl, HX⟩ := hcut
  obtain ⟨w5, rfl⟩ : ∃ z : World, z = wc := ⟨_, rfl⟩
  go_upto_if 44 with fail
  go_cut [8] (fun a wx => a = .int .i64 (al : Int) ∧ Hid (OW w (bytO 5 (Ak, ck, kb) :: boxO gb [.slice A n c, .int .i64 e.fam, .slice B m d, .int .i64 e.ts, .int .i64 e.seq, .int .i64 e.kind, .slice D v q] :: (bldO R g s mm ++ rest)) wx))
  case first =>
    by_cases hf : N % R = 0
    · have hb1 : fb = true := by rw [HFB.out]; exact decide_eq_true hf
      have ha : al = 0 := by rw [HAL.out]; unfold alikeB; rw [← HN.out, if_pos hf]
      clear HFB
      subst hb1
      go_wp2_with fail
      go_meet
      exact ⟨by rw [ha]; rfl, HX⟩
    · have hb1 : fb = false := by rw [HFB.out]; exact decide_eq_false hf
      have ha : al = shareN s.key kb := by rw [HAL.out]; unfold alikeB; rw [← HN.out, if_neg hf]
      clear HFB
      subst hb1
      go_wp2_with (first
        | (refine wpList_load_cell rfl 24 (.tmp 47) rfl rfl (HX.out.cell (i := 2) (j := 10) rfl rfl) (fun w => Tryd.isAgg24 w) ?_)
        | (go_at_call 62; go_must (refine (shared_any s.key kb mm.K Ak s.key.length mm.kc kn ck _ (by have := HKL.out; omega) (HX.out.sl (i := 7) rfl rfl).rb (HX.out.sl (i := 0) rfl HKN.out).rb).mono ?_); rintro r z5 ⟨rfl, hb⟩; replace HX := Lib.hid (HX.out.later hb); clear hb))
      go_meet
      exact ⟨by rw [ha], HX⟩
  clear HX
  obtain ⟨rfl, HX⟩ := hcut
  obtain ⟨w6, rfl⟩ : ∃ z : World, z = wc := ⟨_, rfl⟩
  have HALT : Hid (al < kn) := Lib.hid (by have h9 := alike_lt (R := R) HALL.out HC.out HLO.out; rw [HAL.out, HS0.out, ← HKN.out, HKB.out]; exact h9)
  have halt := HALT.out
  obtain ⟨gk, cpk, hv, _⟩ := own_form (HX.out.row (i := 0) rfl) (by show 0 < kb.length; have := HKN.out; omega)
  injection hv with hv _ hcp
  subst hv
  subst hcp
  obtain ⟨U, hU⟩ : ∃ z, z = uintB al := ⟨_, rfl⟩
  obtain ⟨un, hun⟩ : ∃ z, z = U.length := ⟨_, rfl⟩
  have hun2 : un ≤ 10 := by rw [hun, hU]; exact uintB_le10 (by omega)
  have HU := Lib.hid hU
  have HUN := Lib.hid hun.symm
  obtain ⟨kd, hkd⟩ : ∃ z, z = kb.drop al := ⟨_, rfl⟩
  have HKD := Lib.hid hkd
  have hkdl : kd.length = kn - al := by rw [hkd, List.length_drop, HKN.out]
  have HKDL := Lib.hid hkdl
  obtain ⟨V, hV⟩ : ∃ z, z = uintB kd.length ++ kd := ⟨_, rfl⟩
  obtain ⟨vn, hvn⟩ : ∃ z, z = V.length := ⟨_, rfl⟩
  have hvn2 : vn ≤ 1058 := by rw [hvn, hV, List.length_append]; have := uintB_le10 (n := kd.length) (by omega); omega
  have HV := Lib.hid hV
  have HVN := Lib.hid hvn.symm
  clear hU hun hkd hkdl hV hvn
  have HCK : Hid (kn ≤ ck) := Lib.hid (HX.out.sl (i := 0) rfl HKN.out).cap
  have HSD : Hid (∀ z, Sl z (some ⟨gk, 0, none⟩) kn ck kb → Sl z (some ⟨gk, al, none⟩) (kn - al) (ck - al) kd) := Lib.hid fun z h => by
    have h1 := h.drop (k := al) (by omega) (by have := HCK.out; omega)
    rw [← HKD.out, Option.map_some, show (⟨gk, 0, none⟩ : Addr).add al = ⟨gk, al, none⟩ from by simp [Addr.add]; omega] at h1
    exact h1
  have i1 : (0 : Int) ≤ (al : Int) := by omega
  have i2 : (al : Int) ≤ (kn : Int) := by omega
  have i3 : (kn : Int) ≤ (ck : Int) := by have := HCK.out; omega
  have tk : True := trivial
  go_wp2_with (first
    | (go_at_call 63; go_must (refine (uint_any al _ (by omega)).mono ?_); rw [← HU.out]; rintro r z7 hp; obtain ⟨A1, c1, rfl, _, ho, hb⟩ := hp.at_ (n := un) HUN.out; replace HX := Lib.hid (HX.out.addF9 (OW.byt1 hb ho)); clear hp ho hb)
    | (go_at_call 64; have _t := tk; go_must (refine (bytes_any kd _ (kn - al) _ _ (by omega) (HSD.out _ (HX.out.sl (i := 1) rfl HKN.out)).rb).mono ?_); rw [← HV.out]; rintro r z8 hp; obtain ⟨A2, c2, rfl, _, ho, hb⟩ := hp.at_ (n := vn) HVN.out; replace HX := Lib.hid (HX.out.addF9 (OW.byt1 hb ho)); clear hp ho hb tk)
    | (at_builtin; go_must (refine wl_append rfl (.tmp 54) (.tmp 58) rfl Tryd.u8s' HX.out 1 (v := .slice A1 un c1) (n := un) (cs := u8s U) (by show some (bytO _ (A1, c1, U)) = _; unfold bytO; rw [HUN.out]; rfl) rfl _ _ vn _ (u8s V) rfl (HX.out.sl (i := 0) rfl HVN.out).rb (u8s_one V) (by unfold maxLen; omega) (by omega) ?_); intro A3 c3 z9 hz _; replace HX := Lib.hid hz; clear hz)
    | (refine wpList_load_cell rfl 24 (.tmp 61) rfl rfl (HX.out.cell (i := 3) (j := 6) rfl rfl) (fun w => Tryd.isAgg24 w) ?_))
  have HVL : Hid (e.val.length = v) := Lib.hid (HEE.out ([_, _, _, _] ++ bldO R g s mm) _ HX.out).val.len
  have hv1 : v ≤ 131072 := by have := HOK.out.val.1; have := HVL.out; omega
  obtain ⟨W, hW⟩ : ∃ z, z = uintB e.val.length ++ e.val := ⟨_, rfl⟩
  obtain ⟨wn, hwn⟩ : ∃ z, z = W.length := ⟨_, rfl⟩
  have hwn2 : wn ≤ v + 10 := by rw [hwn, hW, List.length_append]; have := uintB_le10 (n := e.val.length) (by have := HVL.out; omega); have := HVL.out; omega
  have HW := Lib.hid hW
  have HWN := Lib.hid hwn.symm
  clear hW hwn
  obtain ⟨P, pc, hpv, _⟩ := own_slice (HX.out.row (i := 6) rfl)
  obtain ⟨pl, hpl⟩ : ∃ z, z = s.places.length := ⟨_, rfl⟩
  rw [← hpl] at hpv
  have HPV : Hid (∀ o : Option Value, o = some mm.pv → o = some (.slice P pl pc)) := Lib.hid fun o h => by rw [h, hpv]
  have HPL := Lib.hid hpl
  have HPE := Lib.hid hpv
  have hplb : pl ≤ 131072 := by have := HSZ.out; unfold sizeS at this; omega
  clear hpv hpl
  go_upto_if 70 with (first
    | (go_at_call 64; go_must (refine (bytes_any e.val D v q _ (by omega) (HEE.out ([_, _, _, _] ++ bldO R g s mm) _ HX.out).val.rb).mono ?_); rw [← HW.out]; rintro r z10 hp; obtain ⟨A4, c4, rfl, _, ho, hb⟩ := hp.at_ (n := wn) HWN.out; replace HX := Lib.hid (HX.out.addF9 (OW.byt1 hb ho)); clear hp ho hb)
    | (at_builtin; go_must (refine wl_append rfl (.tmp 60) (.tmp 63) rfl Tryd.u8s' HX.out 2 rfl rfl _ _ wn _ (u8s W) rfl (HX.out.sl (i := 0) rfl HWN.out).rb (u8s_one W) (by unfold maxLen; omega) (by omega) ?_); intro A5 c5 z11 hz _; replace HX := Lib.hid hz; clear hz)
    | (refine wpList_load_cell rfl 101 (.tmp 67) rfl rfl (HPV.out _ (HX.out.cell (i := 5) (j := 2) rfl rfl)) (fun w => Tryd.isAgg101 w) ?_))
  obtain ⟨w7, rfl⟩ : ∃ z : World, z = z11 := ⟨_, rfl⟩
  obtain ⟨pn, hpn⟩ : ∃ z, z = (placesB R s).length := ⟨_, rfl⟩
  have HPN := Lib.hid hpn
  clear hpn
  go_cut [10] (fun p wx => w7 = wx ∧ p = .int .i64 (pn : Int))
  case first =>
    by_cases hf : N % R = 0
    · have hb1 : fb = true := by rw [HFB.out]; exact decide_eq_true hf
      have ha : pn = pl + 1 := by rw [HPN.out, HPL.out]; unfold placesB; rw [← HN.out, if_pos hf, List.length_append]; rfl
      clear HFB
      subst hb1
      go_wp2_with fail
      go_meet
      exact ⟨rfl, by rw [ha]; rfl⟩
    · have hb1 : fb = false := by rw [HFB.out]; exact decide_eq_false hf
      have ha : pn = pl := by rw [HPN.out, HPL.out]; unfold placesB; rw [← HN.out, if_neg hf]
      clear HFB
      subst hb1
      go_wp2_with fail
      go_meet
      exact ⟨rfl, by rw [ha]⟩
  obtain ⟨rfl, rfl⟩ := hcut
  obtain ⟨rn, hrn⟩ : ∃ z, z = un + vn + wn := ⟨_, rfl⟩
  rw [← hrn] at HX ⊢
  obtain ⟨RW, hRW⟩ : ∃ z, z = U ++ V ++ W := ⟨_, rfl⟩
  have HRW : Hid (RW = rowK al kb e.val) := Lib.hid (by rw [hRW, HU.out, HV.out, HW.out, HKD.out]; rfl)
  have HRN : Hid (RW.length = rn) := Lib.hid (by rw [hRW, hrn, List.length_append, List.length_append, HUN.out, HVN.out, HWN.out])
  obtain ⟨bl, hbl⟩ : ∃ z, z = s.body.length := ⟨_, rfl⟩
  have HBL := Lib.hid hbl
  have hblb : bl ≤ 131072 := by have := HSZ.out; unfold sizeS at this; omega
  have hrnb : rn ≤ 140000 := by omega
  have hpnb : pn ≤ 131073 := by
    have := HSZ.out
    unfold sizeS at this
    rw [HPN.out]; unfold placesB
    split
    · rw [List.length_append]; simp; omega
    · omega
  have HSS : Hid (sizeS (stepB R s kb e.val) = bl + rn + 4 * pn + 9) := Lib.hid (by
    have h1 : (stepB R s kb e.val).body = s.body ++ rowK (alikeB R s kb) kb e.val := rfl
    have h2 : (stepB R s kb e.val).places = placesB R s := rfl
    unfold sizeS
    rw [h1, h2, List.length_append, ← HAL.out, ← HRW.out, HRN.out, ← HPN.out, ← hbl])
  have HX8 : Hid (OW w (bytO 5 (A4, c4, W) :: bytO 5 (A2, c2, V) :: bytO 5 (A5, c5, RW) :: bytO 5 (some ⟨gk, 0, none⟩, ck, kb) :: boxO gb [.slice A n c, .int .i64 e.fam, .slice B m d, .int .i64 e.ts, .int .i64 e.seq, .int .i64 e.kind, .slice D v q] :: boxO g (bldC R (.slice mm.B bl mm.bc) (.slice P pl pc) mm.A mm.e.row.length mm.ac mm.Q mm.e.qual.length mm.qc mm.e (.slice mm.K s.key.length mm.kc) N) :: bytO 5 (mm.B, mm.bc, s.body) :: rowO 3 1 (.slice P pl pc) pl (s.places.map i64v) :: bytO 5 (mm.A, mm.ac, mm.e.row) :: bytO 5 (mm.Q, mm.qc, mm.e.qual) :: bytO 5 (mm.K, mm.kc, s.key) :: rest) w7) := Lib.hid (by
    have h := HX.out
    have e1 : rowO 5 1 (.slice A5 rn c5) rn (u8s U ++ u8s V ++ u8s W) = bytO 5 (A5, c5, RW) := by
      unfold bytO rowO
      rw [HRN.out, hRW]
      simp [u8s]
    rw [e1] at h
    simp only [bldO] at h
    rw [← HPE.out, hbl, HN.out, HPL.out]
    exact h)
  clear HX hbl hRW hrn
  by_cases hbig : 131072 < bl + rn + 4 * pn + 9
  case pos =>
    have HP : Hid (addC R L e = 53 ∧ addL R L e = L) := Lib.hid (by
      have h : addC R L e = 53 := by unfold addC; rw [if_neg (fun h => h HC.out), if_neg HLO.out, if_pos (by rw [← HS0.out, ← HKB.out, HSS.out]; exact hbig)]
      exact ⟨h, by unfold addL; rw [h, if_neg (by decide)]⟩)
    have h1 : (131072 : Int) < (bl : Int) + (rn : Int) + 4 * (pn : Int) + 9 := by omega
    clear hbig
    go_wp2_with (refine wpList_load_cell rfl 24 (.tmp 75) rfl rfl (HX8.out.cell (i := 5) (j := 1) rfl rfl) (fun w => Tryd.isAgg24 w) ?_)
    go_ret
    refine ⟨by rw [HP.out.1]; rfl, bldO R g s mm, by rw [HP.out.2]; exact ⟨HRR.out, by rw [← HS0.out]; exact HSZ.out, by rw [← HS0.out]; exact HKL.out, HALL.out, mm, by rw [← HS0.out], HLA.out⟩, ?_⟩
    have h := HX8.out.sub ((((((List.Sublist.refl _).cons _).cons _).cons _).cons _).cons _)
    simp only [bldO]
    rw [← HPE.out, HBL.out, HN.out, HPL.out] at h
    exact h
  have HBG := Lib.hid hbig
  have h1 : ¬ (131072 : Int) < (bl : Int) + (rn : Int) + 4 * (pn : Int) + 9 := by omega
  clear hbig
  go_upto_if 86 with (refine wpList_load_cell rfl 24 (.tmp 75) rfl rfl (HX8.out.cell (i := 5) (j := 1) rfl rfl) (fun w => Tryd.isAgg24 w) ?_)
  go_cut [10] (fun p wx => p = .int .i64 (pn : Int) ∧ Hid (∃ pv, OW w (bytO 5 (A4, c4, W) :: bytO 5 (A2, c2, V) :: bytO 5 (A5, c5, RW) :: bytO 5 (some ⟨gk, 0, none⟩, ck, kb) :: boxO gb [.slice A n c, .int .i64 e.fam, .slice B m d, .int .i64 e.ts, .int .i64 e.seq, .int .i64 e.kind, .slice D v q] :: boxO g (bldC R (.slice mm.B bl mm.bc) (pv) mm.A mm.e.row.length mm.ac mm.Q mm.e.qual.length mm.qc mm.e (.slice mm.K s.key.length mm.kc) N) :: bytO 5 (mm.B, mm.bc, s.body) :: rowO 3 1 (pv) pn ((placesB R s).map i64v) :: bytO 5 (mm.A, mm.ac, mm.e.row) :: bytO 5 (mm.Q, mm.qc, mm.e.qual) :: bytO 5 (mm.K, mm.kc, s.key) :: rest) wx))
  case first =>
    by_cases hf : N % R = 0
    · have hb1 : fb = true := by rw [HFB.out]; exact decide_eq_true hf
      have HPB : Hid (placesB R s = s.places ++ [bl]) := Lib.hid (by unfold placesB; rw [← HN.out, if_pos hf, ← HBL.out])
      have HPN1 : Hid (pn = pl + 1) := Lib.hid (by rw [HPN.out, HPB.out, List.length_append, ← HPL.out]; rfl)
      clear HFB
      subst hb1
      go_wp2_with fail
      refine lt_start [11, 14] (by kernel_rfl) ?_
      intro xd hd
      refine ⟨fun z => OW w (bytO 5 (A4, c4, W) :: bytO 5 (A2, c2, V) :: bytO 5 (A5, c5, RW) :: bytO 5 (some ⟨gk, 0, none⟩, ck, kb) :: boxO gb [.slice A n c, .int .i64 e.fam, .slice B m d, .int .i64 e.ts, .int .i64 e.seq, .int .i64 e.kind, .slice D v q] :: boxO g (bldC R (.slice mm.B bl mm.bc) (.slice P pl pc) mm.A mm.e.row.length mm.ac mm.Q mm.e.qual.length mm.qc mm.e (.slice mm.K s.key.length mm.kc) N) :: bytO 5 (mm.B, mm.bc, s.body) :: rowO 3 1 (.slice P pl pc) pl (s.places.map i64v) :: bytO 5 (mm.A, mm.ac, mm.e.row) :: bytO 5 (mm.Q, mm.qc, mm.e.qual) :: bytO 5 (mm.K, mm.kc, s.key) :: rest) z, ?_⟩
      have HS := Lib.hid (HX8.out.later hd)
      refine lt_pure 0 rfl (by kernel_rfl) (by kernel_rfl) (by kernel_rfl) (by kernel_rfl) (fun _ _ _ h => h) (v := ?_) (yi_run rfl (fun w => ?_)) (fun _ => HS.out) ?_
      rotate_left
      · first | (go_simp; done) | (go_simp; with_reducible rfl)
      simp only [Act.put, List.setIfInBounds_toArray, List.set_cons_zero, List.set_cons_succ]
      refine lt_pure 1 rfl (by kernel_rfl) (by kernel_rfl) (by kernel_rfl) (by kernel_rfl) (fun _ _ _ h => h) (v := ?_) (yi_run rfl (fun w => ?_)) (fun _ => HS.out) ?_
      rotate_left
      · first | (go_simp; done) | (go_simp; with_reducible rfl)
      simp only [Act.put, List.setIfInBounds_toArray, List.set_cons_zero, List.set_cons_succ]
      refine lt_pure 2 rfl (by kernel_rfl) (by kernel_rfl) (by kernel_rfl) (by kernel_rfl) (fun _ _ _ h => h) (v := ?_) (yi_run rfl (fun w => ?_)) (fun _ => HS.out) ?_
      rotate_left
      · first | (go_simp; done) | (go_simp; with_reducible rfl)
      simp only [Act.put, List.setIfInBounds_toArray, List.set_cons_zero, List.set_cons_succ]
      refine lt_pure 3 rfl (by kernel_rfl) (by kernel_rfl) (by kernel_rfl) (by kernel_rfl) (fun _ _ _ h => h) (v := ?_) (yi_run rfl (fun w => ?_)) (fun _ => HS.out) ?_
      rotate_left
      · first | (go_simp; done) | (go_simp; with_reducible rfl)
      simp only [Act.put, List.setIfInBounds_toArray, List.set_cons_zero, List.set_cons_succ]
      refine lt_take 4 [11, 12, 13, 14] rfl (by kernel_rfl) (by kernel_rfl) (by kernel_rfl) (by kernel_rfl) (by kernel_rfl) (fun _ _ _ h => h) (yi_cell rfl rfl rfl (fun w hS => OW.cell hS (i := 5) (j := 2) rfl rfl) (fun w => Tryd.isAgg101 w)) HS.out ?_
      simp only [Act.put, List.setIfInBounds_toArray, List.set_cons_zero, List.set_cons_succ]
      refine lt_pure 5 rfl (by kernel_rfl) (by kernel_rfl) (by kernel_rfl) (by kernel_rfl) (fun _ _ _ h => h) (v := ?_) (yi_run rfl (fun w => ?_)) (fun _ => HS.out) ?_
      rotate_left
      · first | (go_simp; done) | (go_simp; with_reducible rfl)
      simp only [Act.put, List.setIfInBounds_toArray, List.set_cons_zero, List.set_cons_succ]
      refine lt_pure 6 rfl (by kernel_rfl) (by kernel_rfl) (by kernel_rfl) (by kernel_rfl) (fun _ _ _ h => h) (v := ?_) (yi_run rfl (fun w => ?_)) (fun _ => HS.out) ?_
      rotate_left
      · first | (go_simp; done) | (go_simp; with_reducible rfl)
      simp only [Act.put, List.setIfInBounds_toArray, List.set_cons_zero, List.set_cons_succ]
      refine lt_pure 7 rfl (by kernel_rfl) (by kernel_rfl) (by kernel_rfl) (by kernel_rfl) (fun _ _ _ h => h) (v := ?_) (yi_run rfl (fun w => ?_)) (fun _ => HS.out) ?_
      rotate_left
      · first | (go_simp; done) | (go_simp; with_reducible rfl)
      simp only [Act.put, List.setIfInBounds_toArray, List.set_cons_zero, List.set_cons_succ]
      refine lt_take 8 [9, 10, 11, 12, 13, 14] rfl (by kernel_rfl) (by kernel_rfl) (by kernel_rfl) (by kernel_rfl) (by kernel_rfl) (fun _ _ _ h => h) (yi_cell rfl rfl rfl (fun w hS => OW.cell hS (i := 5) (j := 1) rfl rfl) (fun w => Tryd.isAgg24 w)) HS.out ?_
      simp only [Act.put, List.setIfInBounds_toArray, List.set_cons_zero, List.set_cons_succ]
      refine lt_pure 9 rfl (by kernel_rfl) (by kernel_rfl) (by kernel_rfl) (by kernel_rfl) (fun _ _ _ h => h) (v := ?_) (yi_run rfl (fun w => ?_)) (fun _ => HS.out) ?_
      rotate_left
      · first | (go_simp; done) | (go_simp; with_reducible rfl)
      simp only [Act.put, List.setIfInBounds_toArray, List.set_cons_zero, List.set_cons_succ]
      refine lt_op 10 rfl (by kernel_rfl) rfl ?_
      refine wpo_build rfl #[.int .i64 (bl : Int)] Tryd.intS5 (.int .i64 0) (by kernel_rfl) (by decide) (by decide) (by decide) rfl (by kernel_rfl) HS.out ?_
      intro g4 x4 hz hb
      have HR : Hid (Reads x4 x4.heap.size 1 (some ⟨g4, 0, none⟩) 1 [.int .i64 (bl : Int)]) := Lib.hid (Reads.own (OW.row (OW.right hz) (i := 0) rfl))
      replace HS := Lib.hid (HS.out.later hb)
      clear hz hb
      refine ⟨fun _ => HS.out, ?_⟩
      simp only [Act.put, List.setIfInBounds_toArray, List.set_cons_zero, List.set_cons_succ]
      refine lt_end 11 rfl (by kernel_rfl) rfl (by kernel_rfl) ?_
      refine wpo_append (.tmp 91) (.tmp 97) rfl Tryd.intS5 HS.out 7 rfl rfl _ (some ⟨g4, 0, none⟩) 1 1 [.int .i64 (bl : Int)] rfl HR.out (by simp [Value.oneCell']) (by unfold maxLen; omega) (by omega) ?_
      intro A7 c7 x5 hz _
      have HY := Lib.hid hz
      clear hz HR
      simp only [Act.put, List.setIfInBounds_toArray, List.set_cons_zero, List.set_cons_succ]
      refine lt_pureF 12 rfl (by kernel_rfl) (by kernel_rfl) (by kernel_rfl) (by kernel_rfl) (by kernel_rfl) (fun _ _ _ h => h) (v := ?_) (yi_run rfl (fun w => ?_)) ?_
      rotate_left
      · first | (go_simp; done) | (go_simp; with_reducible rfl)
      simp only [Act.put, List.setIfInBounds_toArray, List.set_cons_zero, List.set_cons_succ]
      refine lt_pureF 13 rfl (by kernel_rfl) (by kernel_rfl) (by kernel_rfl) (by kernel_rfl) (by kernel_rfl) (fun _ _ _ h => h) (v := ?_) (yi_run rfl (fun w => ?_)) ?_
      rotate_left
      · first | (go_simp; done) | (go_simp; with_reducible rfl)
      simp only [Act.put, List.setIfInBounds_toArray, List.set_cons_zero, List.set_cons_succ]
      refine lt_end 14 rfl (by kernel_rfl) rfl (by kernel_rfl) ?_
      refine wpo_put1 rfl HY.out 5 rfl 2 rfl (by show 2 < 12; decide) _ rfl (by kernel_rfl) rfl ?_
      intro x6 hz _
      replace HY := Lib.hid hz
      clear hz
      simp only [Act.put]
      refine lt_done (by kernel_rfl) ?_
      clear HS
      go_wp2_with fail
      go_meet
      refine ⟨rfl, Lib.hid ⟨.slice A7 (pl + 1) c7, ?_⟩⟩
      rw [HPB.out, HPN1.out, List.map_append]
      exact HY.out
    · have hb1 : fb = false := by rw [HFB.out]; exact decide_eq_false hf
      have HPB : Hid (placesB R s = s.places) := Lib.hid (by unfold placesB; rw [← HN.out, if_neg hf])
      have HPN1 : Hid (pn = pl) := Lib.hid (by rw [HPN.out, HPB.out, ← HPL.out])
      clear HFB
      subst hb1
      go_wp2_with fail
      go_meet
      refine ⟨rfl, Lib.hid ⟨.slice P pl pc, ?_⟩⟩
      rw [HPB.out, HPN1.out]
      exact HX8.out
  clear HX8
  obtain ⟨rfl, hcut⟩ := hcut
  obtain ⟨pv, hx9⟩ := hcut.out
  have HX := Lib.hid hx9
  clear hx9 hcut
  obtain ⟨w8, rfl⟩ : ∃ z : World, z = wc := ⟨_, rfl⟩
  go_wp2_with (first
    | (refine wpList_load_cell rfl 24 (.tmp 104) rfl rfl (HX.out.cell (i := 5) (j := 1) rfl rfl) (fun w => Tryd.isAgg24 w) ?_)
    | (at_builtin; go_must (refine wl_append rfl (.tmp 105) (.tmp 106) rfl Tryd.u8s' HX.out 6 (v := .slice mm.B bl mm.bc) (n := bl) (cs := u8s s.body) (by show some (bytO _ (mm.B, mm.bc, s.body)) = _; unfold bytO; rw [HBL.out]; rfl) rfl _ _ rn _ (u8s RW) rfl (HX.out.sl (i := 2) rfl HRN.out).rb (u8s_one RW) (by unfold maxLen; omega) (by omega) ?_); intro A8 c8 z9 hz _; replace HX := Lib.hid hz; clear hz)
    | (refine wl_put1 rfl (.tmp 109) (.tmp 107) rfl HX.out 5 rfl 1 rfl (by show 1 < 12; decide) _ rfl (by kernel_rfl) rfl ?_; intro z10 hz _; replace HX := Lib.hid hz; clear hz))
  obtain ⟨BN, hBN⟩ : ∃ z, z = s.body ++ RW := ⟨_, rfl⟩
  have HBN := Lib.hid hBN
  have HX9 : Hid (OW w (bytO 5 (A4, c4, W) :: bytO 5 (A2, c2, V) :: bytO 5 (A5, c5, RW) :: bytO 5 (some ⟨gk, 0, none⟩, ck, kb) :: boxO gb [.slice A n c, .int .i64 e.fam, .slice B m d, .int .i64 e.ts, .int .i64 e.seq, .int .i64 e.kind, .slice D v q] :: boxO g (bldC R (.slice A8 BN.length c8) (pv) mm.A mm.e.row.length mm.ac mm.Q mm.e.qual.length mm.qc mm.e (.slice mm.K s.key.length mm.kc) N) :: bytO 5 (A8, c8, BN) :: rowO 3 1 pv pn ((placesB R s).map i64v) :: bytO 5 (mm.A, mm.ac, mm.e.row) :: bytO 5 (mm.Q, mm.qc, mm.e.qual) :: bytO 5 (mm.K, mm.kc, s.key) :: rest) z10) := Lib.hid (by
    have h := HX.out
    have e1 : rowO 5 1 (.slice A8 (bl + rn) c8) (bl + rn) (u8s s.body ++ u8s RW) = bytO 5 (A8, c8, BN) := by
      unfold bytO rowO
      rw [hBN, List.length_append, HRN.out, ← HBL.out]
      simp [u8s]
    have e2 : bl + rn = BN.length := by rw [hBN, List.length_append, HRN.out, ← HBL.out]
    rw [← e1, ← e2]
    exact h)
  clear HX hBN
  have HQL : Hid (e.qual.length = m) := Lib.hid (HEE.out (_ :: _ :: _ :: _ :: _ :: _ :: _ :: _ :: _ :: _ :: _ :: []) _ HX9.out).qual.len
  have HRL : Hid (e.row.length = n) := Lib.hid (HEE.out (_ :: _ :: _ :: _ :: _ :: _ :: _ :: _ :: _ :: _ :: _ :: []) _ HX9.out).row.len
  have hn1 : n ≤ 256 := by have := HOK.out.row.2; have := HRL.out; omega
  have hm1 : m ≤ 256 := by have := HOK.out.qual.1; have := HQL.out; omega
  refine lt_start [7, 9, 11] (by kernel_rfl) ?_
  intro xd hd
  have HY := Lib.hid (HX9.out.later hd)
  clear HX9 hd
  refine ⟨fun z => Below xd.heap.size xd z, ?_⟩
  have HS := Lib.hid (Below.refl xd.heap.size xd)
  refine lt_pure 0 rfl (by kernel_rfl) (by kernel_rfl) (by kernel_rfl) (by kernel_rfl) (fun _ _ _ h => h) (v := ?_) (yi_run rfl (fun w => ?_)) (fun _ => HS.out) ?_
  rotate_left
  · first | (go_simp; done) | (go_simp; with_reducible rfl)
  simp only [Act.put, List.setIfInBounds_toArray, List.set_cons_zero, List.set_cons_succ]
  refine lt_take 1 [2, 5, 6, 7, 8, 9, 10, 11] rfl (by kernel_rfl) (by kernel_rfl) (by kernel_rfl) (by kernel_rfl) (by kernel_rfl) (fun _ _ _ h => h) (yi_cell rfl rfl rfl (fun w hS => OW.cell (HY.out.later hS) (i := 4) (j := 0) rfl rfl) (fun w => Tryd.isAgg24 w)) HS.out ?_
  simp only [Act.put, List.setIfInBounds_toArray, List.set_cons_zero, List.set_cons_succ]
  refine lt_pure 3 rfl (by kernel_rfl) (by kernel_rfl) (by kernel_rfl) (by kernel_rfl) (fun _ _ _ h => h) (v := ?_) (yi_run rfl (fun w => ?_)) (fun _ => HS.out) ?_
  rotate_left
  · first | (go_simp; done) | (go_simp; with_reducible rfl)
  simp only [Act.put, List.setIfInBounds_toArray, List.set_cons_zero, List.set_cons_succ]
  refine lt_take 4 [5, 6, 7, 8, 9, 10, 11] rfl (by kernel_rfl) (by kernel_rfl) (by kernel_rfl) (by kernel_rfl) (by kernel_rfl) (fun _ _ _ h => h) (yi_cell rfl rfl rfl (fun w hS => OW.cell (HY.out.later hS) (i := 4) (j := 2) rfl rfl) (fun w => Tryd.isAgg24 w)) HS.out ?_
  simp only [Act.put, List.setIfInBounds_toArray, List.set_cons_zero, List.set_cons_succ]
  refine lt_call 2 rfl (by kernel_rfl) rfl rfl ⟨_, Tryd.func65, by decide, by kernel_rfl⟩ [.slice A n c] rfl ?_
  refine (sclone_any e.row A n c _ (by omega) (HEE.out (_ :: _ :: _ :: _ :: _ :: _ :: _ :: _ :: _ :: _ :: _ :: []) _ HY.out).row.nil (HEE.out (_ :: _ :: _ :: _ :: _ :: _ :: _ :: _ :: _ :: _ :: _ :: []) _ HY.out).row.rb).mono ?_
  rintro r y1 hp
  obtain ⟨A9, c9, rfl, _, ho, hb⟩ := hp.at_ HRL.out
  replace HS := Lib.hid (HS.out.trans (hb.mono HS.out.size))
  replace HY := Lib.hid (HY.out.addF9 (OW.byt1 hb ho))
  clear hp ho hb
  refine ⟨_, rfl, fun _ => HS.out, ?_⟩
  simp only [Act.put, List.setIfInBounds_toArray, List.set_cons_zero, List.set_cons_succ]
  refine lt_pure 6 rfl (by kernel_rfl) (by kernel_rfl) (by kernel_rfl) (by kernel_rfl) (fun _ _ _ h => h) (v := ?_) (yi_run rfl (fun w => ?_)) (fun _ => HS.out) ?_
  rotate_left
  · first | (go_simp; done) | (go_simp; with_reducible rfl)
  simp only [Act.put, List.setIfInBounds_toArray, List.set_cons_zero, List.set_cons_succ]
  refine lt_call 5 rfl (by kernel_rfl) rfl rfl ⟨_, Tryd.func65, by decide, by kernel_rfl⟩ [.slice B m d] rfl ?_
  refine (sclone_any e.qual B m d _ (by omega) (HEE.out (_ :: _ :: _ :: _ :: _ :: _ :: _ :: _ :: _ :: _ :: _ :: _ :: []) _ HY.out).qual.nil (HEE.out (_ :: _ :: _ :: _ :: _ :: _ :: _ :: _ :: _ :: _ :: _ :: _ :: []) _ HY.out).qual.rb).mono ?_
  rintro r y2 hp
  obtain ⟨A10, c10, rfl, _, ho, hb⟩ := hp.at_ HQL.out
  replace HS := Lib.hid (HS.out.trans (hb.mono HS.out.size))
  replace HY := Lib.hid (HY.out.addF9 (OW.byt1 hb ho))
  clear hp ho hb
  refine ⟨_, rfl, fun _ => HS.out, ?_⟩
  simp only [Act.put, List.setIfInBounds_toArray, List.set_cons_zero, List.set_cons_succ]
  refine lt_end 7 rfl (by kernel_rfl) rfl (by kernel_rfl) ?_
  refine wpo_put1 rfl HY.out 6 rfl 0 rfl (by show 0 < 7; decide) _ rfl (by kernel_rfl) rfl ?_
  intro x7 hz _
  replace HY := Lib.hid hz
  clear hz
  simp only [Act.put]
  refine lt_pureF 8 rfl (by kernel_rfl) (by kernel_rfl) (by kernel_rfl) (by kernel_rfl) (by kernel_rfl) (fun _ _ _ h => h) (v := ?_) (yi_run rfl (fun w => ?_)) ?_
  rotate_left
  · first | (go_simp; done) | (go_simp; with_reducible rfl)
  simp only [Act.put, List.setIfInBounds_toArray, List.set_cons_zero, List.set_cons_succ]
  refine lt_end 9 rfl (by kernel_rfl) rfl (by kernel_rfl) ?_
  refine wpo_put1 rfl HY.out 6 rfl 2 rfl (by show 2 < 7; decide) _ rfl (by kernel_rfl) rfl ?_
  intro x8 hz _
  replace HY := Lib.hid hz
  clear hz
  simp only [Act.put]
  refine lt_pureF 10 rfl (by kernel_rfl) (by kernel_rfl) (by kernel_rfl) (by kernel_rfl) (by kernel_rfl) (fun _ _ _ h => h) (v := ?_) (yi_run rfl (fun w => ?_)) ?_
  rotate_left
  · first | (go_simp; done) | (go_simp; with_reducible rfl)
  simp only [Act.put, List.setIfInBounds_toArray, List.set_cons_zero, List.set_cons_succ]
  refine lt_end 11 rfl (by kernel_rfl) rfl (by kernel_rfl) ?_
  refine wpo_put1 rfl HY.out 6 rfl 6 rfl (by show 6 < 7; decide) _ rfl (by kernel_rfl) rfl ?_
  intro x9 hz _
  replace HY := Lib.hid hz
  clear hz
  simp only [Act.put]
  refine lt_done (by kernel_rfl) ?_
  clear HS
  have HY : Hid (OW w (bytO 5 (A10, c10, e.qual) :: bytO 5 (A9, c9, e.row) :: bytO 5 (A4, c4, W) :: bytO 5 (A2, c2, V) :: bytO 5 (A5, c5, RW) :: bytO 5 (some ⟨gk, 0, none⟩, ck, kb) :: boxO gb [.slice A9 n c9, .int .i64 e.fam, .slice A10 m c10, .int .i64 e.ts, .int .i64 e.seq, .int .i64 e.kind, .slice none 0 0] :: boxO g (bldC R (.slice A8 BN.length c8) (pv) mm.A mm.e.row.length mm.ac mm.Q mm.e.qual.length mm.qc mm.e (.slice mm.K s.key.length mm.kc) N) :: bytO 5 (A8, c8, BN) :: rowO 3 1 pv pn ((placesB R s).map i64v) :: bytO 5 (mm.A, mm.ac, mm.e.row) :: bytO 5 (mm.Q, mm.qc, mm.e.qual) :: bytO 5 (mm.K, mm.kc, s.key) :: rest) x9) := Lib.hid HY.out
  have hnn : (0 : Int) ≤ (N : Int) := by omega
  go_wp2_with (first
    | (refine wpList_load_row7 rfl 37 (.tmp 3) rfl rfl (HY.out.range (i := 6) rfl) ent_row5 ?_)
    | (refine wl_putAt rfl (.tmp 124) (.tmp 121) rfl HY.out 7 rfl rfl [.slice A9 n c9, .int .i64 e.fam, .slice A10 m c10, .int .i64 e.ts, .int .i64 e.seq, .int .i64 e.kind, .slice none 0 0] rfl (by show 3 + 7 ≤ 12; decide) (by kernel_rfl) (by simp [Value.oneCell']) ?_; intro z11 hz _; replace HY := Lib.hid hz; clear hz)
    | (refine wl_put1 rfl (.tmp 126) (.tmp 122) rfl HY.out 7 rfl 10 rfl (by show 10 < 12; decide) (.slice (some ⟨gk, 0, none⟩) kn ck) rfl (by kernel_rfl) rfl ?_; intro z12 hz _; replace HY := Lib.hid hz; clear hz)
    | (refine wpList_load_cell rfl 3 (.tmp 129) rfl rfl (show _ = some (Value.int .i64 (N : Int)) from HY.out.cell (i := 7) (j := 11) rfl rfl) (fun w => Tryd.isAgg3 w) ?_)
    | (refine wl_put1 rfl (.tmp 133) (.tmp 131) rfl HY.out 7 rfl 11 rfl (by show 11 < 12; decide) (.int .i64 ((N : Int) + 1)) rfl (by kernel_rfl) rfl ?_; intro z13 hz _; replace HY := Lib.hid hz; clear hz))
  go_ret
  have HP : Hid (addC R L e = 0 ∧ addL R L e = L ++ [e]) := Lib.hid (by
    have h : addC R L e = 0 := by unfold addC; rw [if_neg (fun h => h HC.out), if_neg HLO.out, if_neg (by rw [← HS0.out, ← HKB.out, HSS.out]; exact HBG.out)]
    exact ⟨h, by unfold addL; rw [h, if_pos rfl]⟩)
  have HRB : Hid (runB R (L ++ [e]) = stepB R s kb e.val) := Lib.hid (by rw [runB_snoc, ← HS0.out, ← HKB.out])
  refine ⟨by rw [HP.out.1]; rfl, bldO R g (stepB R s kb e.val) ⟨A8, c8, pv, A9, c9, A10, c10, some ⟨gk, 0, none⟩, ck, { e with val := [] }⟩, ?_, ?_⟩
  · rw [HP.out.2]
    refine ⟨HRR.out, ?_, ?_, ?_, ⟨A8, c8, pv, A9, c9, A10, c10, some ⟨gk, 0, none⟩, ck, { e with val := [] }⟩, ?_, ?_⟩
    · rw [HRB.out, HSS.out]; have := HBG.out; omega
    · rw [HRB.out]; show kb.length ≤ _; have := HKN.out; omega
    · intro l hl
      rcases List.mem_append.1 hl with h | h
      · exact HALL.out l h
      · obtain rfl := List.mem_singleton.1 h; exact HC.out
    · rw [HRB.out]
    · intro l hl
      rw [List.getLast?_append] at hl
      injection hl with hl
      subst hl; rfl
  · have h := HY.out
    have h := (((((h.front (i := 5) rfl).front (i := 1) rfl).front (i := 2) rfl).front (i := 9) rfl).front (i := 9) rfl).front (i := 9) rfl
    have e1 : (stepB R s kb e.val).body = BN := by rw [HBN.out, HRW.out, HAL.out]; rfl
    have e2 : (stepB R s kb e.val).places = placesB R s := rfl
    have e3 : (stepB R s kb e.val).key = kb := rfl
    have e4 : (stepB R s kb e.val).n = N + 1 := by rw [HN.out]; rfl
    simp only [bldO]
    rw [e1, e2, e3, e4, ← HPN.out, HRL.out, HQL.out, HKN.out]
    exact OW.sub h (.cons_cons _ (.cons_cons _ (.cons_cons _ (.cons_cons _ (.cons_cons _ (.cons_cons _ (.cons _ (.cons _ (.cons _ (.cons _ (.cons _ (.cons _ (.cons _ (List.Sublist.refl _))))))))))))))
end Go.Proofs.YtmigjipfomfacaaDoor
namespace Go.Proofs.YtmigjipfomfacaaDoor
open Go.RowKit
theorem places_take {l : List Nat} {k v : Nat} (h : l[k]? = some v) : (l.take (k + 1)).flatMap four4 = (l.take k).flatMap four4 ++ four4 v := by
  rw [take_snoc h, List.flatMap_append]; simp
theorem fin_len (R : Nat) {L : List Ent} : (finE R L).1.length = szB R L := by
  unfold finE szB
  split
  · rfl
  · rename_i h; exact layB_len R h
theorem runE_places (R : Nat) : ∀ (l : List Ent) (s : BSt), (∀ p, p ∈ s.places → p ≤ s.body.length) → ∀ p, p ∈ (runE R s l).places → p ≤ (runE R s l).body.length
  | [], _, h => h
  | e :: l, s, h => runE_places R l (stepB R s (keyE e) e.val) (fun p hp => by
    simp only [stepB] at hp ⊢
    rw [List.length_append]
    unfold placesB at hp
    split at hp
    · rcases List.mem_append.1 hp with h1 | h1
      · have := h p h1; omega
      · have := List.mem_singleton.1 h1; omega
    · have := h p hp; omega)
theorem runB_places (R : Nat) (l : List Ent) (p : Nat) (h : p ∈ (runB R l).places) : p ≤ (runB R l).body.length := runE_places R l bst0 (fun p h => (by cases h)) p h
set_option maxRecDepth 100000 in
set_option maxHeartbeats 4000000 in
theorem finish_any {w x : World} {R g : Nat} {L : List Ent} {os rest : List Ob} (hb : Bld R L g os) (h : OW w (os ++ rest) x) (ht : TabAt 0 x) :
    Calls Tryd.prog 24 #[.pointer (some ⟨g, 0, none⟩)] x (BytesPost2 5 (finE R L).1 (finE R L).2 x) := by
  have HSZ1 := Lib.hid (fun z (hz : Below x.heap.size x z) => size_any hb (h.later hz))
  have HTB : Hid (∀ z, Below x.heap.size x z → TabAt 0 z) := Lib.hid fun z hz => ht.later hz
  obtain ⟨hR, hsz, _, _, m, rfl, _⟩ := hb
  have hpl0 := runB_places R L
  obtain ⟨s, hs⟩ : ∃ z, z = runB R L := ⟨_, rfl⟩
  rw [← hs] at h hsz hpl0
  obtain ⟨P, pc, hpv, _⟩ := own_slice (h.row (i := 2) rfl)
  obtain ⟨bl, hbl⟩ : ∃ z, z = s.body.length := ⟨_, rfl⟩
  obtain ⟨pn, hpn⟩ : ∃ z, z = s.places.length := ⟨_, rfl⟩
  obtain ⟨N, hN⟩ : ∃ z, z = s.n := ⟨_, rfl⟩
  have hNL : N = L.length := by rw [hN, hs, runB_n]
  have hNb : N ≤ 131072 := by have h1 := n_le_size _ (runB_many R L); rw [← hs] at h1; omega
  have hlim : bl + 4 * pn + 9 ≤ 131072 := by unfold sizeS at hsz; omega
  have HS0 := Lib.hid hs
  have HBL := Lib.hid hbl.symm
  have HPN := Lib.hid hpn.symm
  have HN := Lib.hid hN.symm
  have HNL := Lib.hid hNL
  have HPL := Lib.hid hpl0
  obtain ⟨szn, hszn⟩ : ∃ z, z = szB R L := ⟨_, rfl⟩
  have HSN := Lib.hid hszn.symm
  have HC : Hid (∀ z, Below x.heap.size x z → z.cell? ⟨g, 0, none⟩ = some (.int .i64 (R : Int)) ∧ z.cell? ⟨g, 1, none⟩ = some (.slice m.B bl m.bc) ∧ z.cell? ⟨g, 2, none⟩ = some (.slice P pn pc) ∧ z.cell? ⟨g, 5 + 6, none⟩ = some (.int .i64 (N : Int)) ∧ Sl z m.B bl m.bc s.body ∧ Reads z z.heap.size 1 P pn (s.places.map i64v)) := Lib.hid fun z hz => by
    have h' := h.later hz
    rw [hbl, hN]
    refine ⟨h'.cell (i := 0) (j := 0) rfl rfl, h'.cell (i := 0) (j := 1) rfl rfl, ?_, h'.cell (i := 0) (j := 11) rfl rfl, h'.sl (i := 1) rfl rfl, ?_⟩
    · have := h'.cell (i := 0) (j := 2) rfl rfl
      rw [this, hpv, hpn]
    · have := h'.row (i := 2) rfl
      rw [hpv, ← hpn] at this
      exact Reads.own this
  have HRR := Lib.hid hR
  have hR1 := hR.1
  have hR2 := hR.2
  clear h hs hbl hpn hN hpv hNL hpl0 hszn hsz hR ht
  by_cases h0 : N = 0
  case pos =>
    have HF : Hid (finE R L = ([], 54)) := Lib.hid (by unfold finE; rw [if_pos (List.eq_nil_of_length_eq_zero (by rw [← HNL.out, h0]))])
    subst h0
    obtain ⟨_, _, _, c3, _⟩ := HC.out x (Below.refl _ _)
    go_enter Tryd.func24, Tryd.ntmps24
    go_wp2_with (refine wpList_load_cell rfl 3 (.tmp 10) rfl rfl c3 (fun w => Tryd.isAgg3 w) ?_)
    go_ret2
    rw [HF.out]
    exact bytes_post2 (n := 0) (own_nil _ _ _ _) (Below.refl _ _)
  have hd : ((N : Int) == 0) = false := beq_eq_false_iff_ne.2 (by omega)
  have HFL : Hid (finE R L = (headB5 R s ++ lowB (sumL (headB5 R s)), 0)) := Lib.hid (by
    have h1 : L ≠ [] := fun e => h0 (by rw [HNL.out, e]; rfl)
    unfold finE layB
    rw [if_neg h1, if_neg h1, ← HS0.out]; rfl)
  have hsz2 : szn ≤ 131072 := by
    have h1 : L ≠ [] := fun e => h0 (by rw [HNL.out, e]; rfl)
    have := HSN.out
    unfold szB at this
    rw [if_neg h1, ← HS0.out] at this
    unfold sizeS at this
    have := HBL.out
    have := HPN.out
    omega
  obtain ⟨_, _, _, c3, _⟩ := HC.out x (Below.refl _ _)
  have HX := Lib.hid (OW.nil x)
  go_enter Tryd.func24, Tryd.ntmps24
  go_wp2_with (first
    | (refine wpList_load_cell rfl 3 (.tmp 10) rfl rfl c3 (fun w => Tryd.isAgg3 w) ?_)
    | (go_at_call 40; go_must (refine (HSZ1.out _ HX.out.up).mono ?_); rw [HSN.out]; rintro r z1 ⟨rfl, hb⟩; replace HX := Lib.hid (HX.out.later hb); clear hb c3)
    | (at_make; go_must (refine wl_make0 rfl _ _ rfl Tryd.u8s' szn _ rfl rfl rfl (by omega) (by unfold maxLen; omega) HX.out ?_); intro g1 z2 hz _; have HX2 : Hid (OW x [bytO 5 (some ⟨g1, 0, none⟩, szn, [])] z2) := Lib.hid hz; obtain ⟨_, d1, d2, _, s1, _⟩ := HC.out z2 HX2.out.up; have S1 := Lib.hid s1; clear hz HX s1)
    | (refine wpList_load_cell rfl 24 (.tmp 19) rfl rfl d1 (fun w => Tryd.isAgg24 w) ?_)
    | (at_builtin; go_must (refine wl_appB rfl (.tmp 16) (.tmp 20) rfl Tryd.u8s' HX2.out 0 rfl rfl rfl _ _ bl _ s.body rfl S1.out.rb (by simp; omega) ?_); intro A3 c4 z3 hz; have HX3 : Hid (OW x [bytO 5 (A3, c4, s.body)] z3) := Lib.hid hz; obtain ⟨_, _, d3, _⟩ := HC.out z3 HX3.out.up; clear hz d1 d2 S1)
    | (refine wpList_load_cell rfl 101 (.tmp 24) rfl rfl d3 (fun w => Tryd.isAgg101 w) ?_))
  go_loopw [4, 27] (fun v i wr => ∃ (k : Nat) (A : Option Addr) (c n : Nat) (l : List UInt8), k ≤ pn ∧ n ≤ 131072 + 4 * k ∧ i = .int .i64 k ∧ v = .slice A n c ∧ Hid (l.length = n) ∧ Hid (l = s.body ++ (s.places.take k).flatMap four4) ∧ Hid (OW x [bytO 5 (A, c, l)] wr)) (fun _ i _ => pn - (intOf i).toNat)
  case atStart => exact ⟨0, A3, c4, bl, s.body, Nat.zero_le _, by omega, rfl, rfl, HBL, Lib.hid (by simp), HX3⟩
  case round =>
    clear HX3 d3
    obtain ⟨k, A5, c5, n5, l5, hk, hn5, rfl, rfl, HL5, HP5, HX5⟩ := hrel
    by_cases hlt : k < pn
    case pos =>
      have hdk : decide ((k : Int) < (pn : Int)) = true := decide_eq_true (by omega)
      obtain ⟨_, _, _, _, _, hr⟩ := HC.out wr HX5.out.up
      obtain ⟨b, o, rfl, _, hcc⟩ := hr.2 (by omega)
      have hpk : s.places[k]? = some (s.places[k]'(by rw [HPN.out]; exact hlt)) := List.getElem?_eq_getElem _
      obtain ⟨pv, hpv⟩ : ∃ z, z = s.places[k]'(by rw [HPN.out]; exact hlt) := ⟨_, rfl⟩
      rw [← hpv] at hpk
      have hc1 : wr.cell? ⟨b, o + k, none⟩ = some (.int .i64 (pv : Int)) := hcc k _ (by rw [List.getElem?_map, hpk]; rfl)
      have hpb : pv ≤ 131072 := by have := HPL.out pv (List.mem_of_getElem? hpk); have := HBL.out; omega
      have HPT := Lib.hid (places_take hpk)
      have i1 : (0 : Int) ≤ (k : Int) := by omega
      have i2 : (k : Int) < (pn : Int) := by omega
      clear hr hcc hpk hpv
      go_wp2_with (first
        | (go_at_call 66; go_must (refine (four_any pv _ (by omega)).mono ?_); rintro r z4 hp; obtain ⟨A6, c6, rfl, hs6, _, hb⟩ := hp.at_ (n := 4) rfl; have HS6 := Lib.hid hs6; replace HX5 := Lib.hid (HX5.out.later hb); clear hp hb hs6 hc1)
        | (at_builtin; go_must (refine wl_appB rfl (.tmp 31) (.tmp 34) rfl Tryd.u8s' HX5.out 0 rfl HL5.out rfl _ _ 4 _ (four4 pv) rfl HS6.out.rb (by omega) ?_); intro A7 c7 z5 hz; have HX7 : Hid (OW x [bytO 5 (A7, c7, l5 ++ four4 pv)] z5) := Lib.hid hz; clear hz HX5 HS6))
      go_roundw
      case rel => exact ⟨k + 1, A7, c7, n5 + 4, l5 ++ four4 pv, by omega, by omega, by go_num, rfl, Lib.hid (by rw [List.length_append, HL5.out]; rfl), Lib.hid (by rw [HPT.out, HP5.out, List.append_assoc]), HX7⟩
      case measure => simp [intOf]; omega
    have hdk : decide ((k : Int) < (pn : Int)) = false := decide_eq_false (by omega)
    have HP6 : Hid (l5 = s.body ++ s.places.flatMap four4) := Lib.hid (by rw [HP5.out, take_all (by have := HPN.out; omega)])
    obtain ⟨hd, hhd⟩ : ∃ z, z = headB5 R s := ⟨_, rfl⟩
    obtain ⟨_, _, _, c3, _⟩ := HC.out wr HX5.out.up
    have HHD := Lib.hid hhd
    have HL7 : Hid ((l5 ++ four4 N).length = n5 + 4) := Lib.hid (by rw [List.length_append, HL5.out]; rfl)
    have HL8 : Hid ((l5 ++ four4 N ++ [UInt8.ofNat R]).length = n5 + 4 + 1) := Lib.hid (by rw [List.length_append, HL7.out]; rfl)
    have HE8 : Hid (l5 ++ four4 N ++ [UInt8.ofNat R] = hd) := Lib.hid (by rw [hhd, HP6.out, ← HN.out]; rfl)
    have HU8 : Hid ([Value.int .u8 (R : Int)] = u8s [UInt8.ofNat R]) := Lib.hid (by
      show _ = [u8v _]
      unfold u8v
      rw [UInt8.toNat_ofNat', Nat.mod_eq_of_lt (by omega)])
    have HLD : Hid (hd.length = n5 + 4 + 1) := Lib.hid (by rw [← HE8.out]; exact HL8.out)
    have f1 : Hid (∀ x : List UInt8, [x].flatten = x) := Lib.hid fun x => by simp
    obtain ⟨sm, hsm⟩ : ∃ z, z = sumL hd := ⟨_, rfl⟩
    have hs32 : sm < 4294967296 := by rw [hsm]; exact sumL_lt hd
    have HSM := Lib.hid hsm
    obtain ⟨q3, q2, q1, q0, hf4, hlw⟩ : ∃ a b d e, four4 sm = [a, b, d, e] ∧ lowB sm = [e, d, b, a] := ⟨_, _, _, _, rfl, rfl⟩
    have HF4 := Lib.hid hf4
    have HLW := Lib.hid hlw
    clear HP5 hhd hsm hf4 hlw
    have tk1 : True := trivial
    have tk2 : True := trivial
    have tk3 : True := trivial
    go_wp2_with (first
      | (refine wpList_load_cell rfl 3 (.tmp 40) rfl rfl c3 (fun w => Tryd.isAgg3 w) ?_)
      | (go_at_call 66; have _t := tk1; go_must (refine (four_any N _ (by omega)).mono ?_); rintro r z4 hp; obtain ⟨A6, c6, rfl, hs6, _, hb⟩ := hp.at_ (n := 4) rfl; have HS6 := Lib.hid hs6; replace HX5 := Lib.hid (HX5.out.later hb); clear hp hb hs6 c3 tk1)
      | (at_builtin; have _t := tk2; go_must (refine wl_appB rfl (.tmp 37) (.tmp 43) rfl Tryd.u8s' HX5.out 0 rfl HL5.out rfl _ _ 4 _ (four4 N) rfl HS6.out.rb (by omega) ?_); intro A7 c7 z5 hz; have HX7 : Hid (OW x [bytO 5 (A7, c7, l5 ++ four4 N)] z5) := Lib.hid hz; obtain ⟨d0, _⟩ := HC.out z5 HX7.out.up; clear hz HX5 HS6 tk2)
      | (refine wpList_load_cell rfl 3 (.tmp 48) rfl rfl d0 (fun w => Tryd.isAgg3 w) ?_)
      | (at_builtin; have _t := tk3; go_must (refine wl_appB rfl (.tmp 45) (.tmp 51) rfl Tryd.u8s' (HX7.out.al (.cells #[.int .u8 (R : Int)] 5)) 0 rfl HL7.out rfl _ (some ⟨z5.heap.size, 0, none⟩) 1 1 [UInt8.ofNat R] rfl (by exact reads_lit z5 _ [UInt8.ofNat R] _ _ HU8.out) (by omega) ?_); intro A8 c8 z6 hz; rw [HE8.out] at hz; have HX8 : Hid (OW x [bytO 5 (A8, c8, hd)] z6) := Lib.hid hz; have HS8 := Lib.hid (HX8.out.sl (i := 0) rfl HLD.out); clear hz HX7 d0 tk3)
      | (go_at_call 67; go_must (refine (sum_any [hd] _ 1 1 _ (by omega) (by exact HS8.out.one _ _) (HTB.out _ ((HX8.out.al (.cells #[.slice A8 (n5 + 4 + 1) c8] 24)).up))).mono ?_); rintro r w1 ⟨rfl, rfl⟩; rw [f1.out, ← HSM.out]; have HX9 := Lib.hid (HX8.out.al (.cells #[.slice A8 (n5 + 4 + 1) c8] 24)))
      | (go_at_call 66; go_must (refine (four_any sm _ hs32).mono ?_); rintro r z7 hp; rw [HF4.out] at hp; obtain ⟨A9, c9, rfl, _, ho, hb⟩ := hp.at_ (n := 4) rfl; obtain ⟨g9, cp9, hv, _, _, _⟩ := own_form ho (by show 0 < 4; omega); injection hv with hv _ hcp; subst hv; subst hcp; have HY := Lib.hid (OW.byt1 hb ho); clear hp hb ho)
      | (go_at_call 68; go_must (refine (reverse4_any _ _ _ _ g9 _ _ _ HY.out).mono ?_); rintro r z8 ⟨rfl, hx⟩; have HZ := Lib.hid (HX9.out.app hx); clear hx)
      | (at_builtin; go_must (refine wl_appB rfl (.tmp 59) (.tmp 60) rfl Tryd.u8s' HZ.out 0 rfl HLD.out rfl _ _ 4 _ [q0, q1, q2, q3] rfl (HZ.out.sl (i := 1) rfl rfl).rb (by omega) ?_); intro A10 c10 z9 hz; have HQ := Lib.hid (hz.left (ps := [_]) (os := [_])); clear hz))
    go_ret2
    rw [HFL.out]
    exact OW.bytes2 HQ.out (by rw [← HHD.out, ← HSM.out, HLW.out]) (n := n5 + 4 + 1 + 4) (by rw [List.length_append, HLD.out]; rfl) rfl rfl
end Go.Proofs.YtmigjipfomfacaaDoor
namespace Go.Proofs.YtmigjipfomfacaaDoor
open Go.RowKit
theorem begin_no (R : Int) (w : World) (h : R < 1 ∨ 16 < R) : Calls Tryd.prog 22 #[.int .i64 R] w fun e w' => e = .returned (.tuple #[.pointer none, .int .i64 1]) ∧ Below w.heap.size w w' :=
  (begin_any R w).mono fun e w' hp => by
    rcases hp with ⟨_, h1, h2⟩ | ⟨h1, h2, _⟩
    · exact ⟨h1, h2⟩
    · omega
theorem begin_ok (R : Nat) (w : World) (h1 : 1 ≤ R) (h2 : R ≤ 16) : Calls Tryd.prog 22 #[.int .i64 (R : Int)] w fun e w' => ∃ g os, e = .returned (.tuple #[.pointer (some ⟨g, 0, none⟩), .int .i64 0]) ∧ Bld R [] g os ∧ OW w os w' :=
  (begin_any R w).mono fun e w' hp => by
    rcases hp with ⟨h, _⟩ | ⟨_, _, g, os, h3, h4, h5⟩
    · omega
    · rw [Int.toNat_natCast] at h4; exact ⟨g, os, h3, h4, h5⟩
theorem addC_step {R : Nat} {es : List Ent} {k : Nat} {e : Ent} (hk : es[k]? = some e) (h0 : (buildK R [] (es.take k)).1 = 0) : (addC R (es.take k) e = 0 → addL R (es.take k) e = es.take (k + 1) ∧ (buildK R [] (es.take (k + 1))).1 = 0) ∧ (addC R (es.take k) e ≠ 0 → (buildK R [] es).1 = addC R (es.take k) e) := by
  have ht : es.take (k + 1) = es.take k ++ [e] := take_snoc hk
  have hb := buildK_app R (es.take k) [] [e]
  rw [if_pos h0, List.nil_append] at hb
  refine ⟨fun h => ⟨by unfold addL; rw [if_pos h, ht], ?_⟩, fun h => ?_⟩
  · rw [ht, hb]; unfold buildK; rw [if_pos h]; rfl
  · have h2 := buildK_app R (es.take k ++ [e]) [] (es.drop (k + 1))
    have e1 : es.take k ++ [e] ++ es.drop (k + 1) = es := by rw [← ht, List.take_append_drop]
    rw [e1, hb] at h2
    have h3 : buildK R (es.take k) [e] = (addC R (es.take k) e, es.take k) := by unfold buildK; rw [if_neg h]
    rw [h3] at h2
    rw [h2, if_neg h]
set_option maxRecDepth 100000 in
set_option maxHeartbeats 4000000 in
theorem build_any (R : Int) (es : List Ent) (A : Option Addr) (n c : Nat) (w : World) (hes : Ens w A n es) (hn : n ≤ 9223372036854775806) (ht : TabAt 0 w) :
    Calls Tryd.prog 10 #[.int .i64 R, .slice A n c] w (BytesPost2 5 (buildE5 R es).1 (buildE5 R es).2 w) := by
  have HTB : Hid (∀ z, Below w.heap.size w z → TabAt 0 z) := Lib.hid fun z hz => ht.later hz
  have HLE := Lib.hid hes.len
  have HES : Hid (∀ z, Below w.heap.size w z → Ens z A n es) := Lib.hid fun z hz => hes.later hz
  clear hes ht
  by_cases hR : R < 1 ∨ 16 < R
  case pos =>
    have HP : Hid (buildE5 R es = ([], 1)) := Lib.hid (by unfold buildE5; rw [if_pos hR])
    have HRR := Lib.hid hR
    clear hR
    go_enter Tryd.func10, Tryd.ntmps10
    go_wp2_with (go_at_call 22; go_must (refine (begin_no R _ HRR.out).mono ?_); rintro r z1 ⟨rfl, hb⟩; have HB := Lib.hid hb; clear hb)
    go_loopw [7, 8] (fun e i wr => e = .int .i64 1 ∧ i = .int .i64 0 ∧ Hid (Below w.heap.size w wr)) (fun _ _ _ => 0)
    case atStart => exact ⟨rfl, rfl, HB⟩
    case round =>
      obtain ⟨rfl, rfl, HB2⟩ := hrel
      clear HB
      by_cases h0 : 0 < n
      · have hd : decide ((0 : Int) < (n : Int)) = true := decide_eq_true (by omega)
        go_wp2_with fail
        go_ret2
        rw [HP.out]
        exact bytes_post2 (n := 0) (own_nil _ _ _ _) HB2.out
      · have hd : decide ((0 : Int) < (n : Int)) = false := decide_eq_false (by omega)
        go_wp2_with fail
        go_ret2
        rw [HP.out]
        exact bytes_post2 (n := 0) (own_nil _ _ _ _) HB2.out
  obtain ⟨r, rfl⟩ : ∃ r : Nat, R = (r : Int) := ⟨R.toNat, by omega⟩
  have hr1 : 1 ≤ r := by omega
  have hr2 : r ≤ 16 := by omega
  have HPO : Hid ((buildK r [] es).1 = 0 → buildE5 r es = finE r es) := Lib.hid fun h => by unfold buildE5; rw [if_neg hR, Int.toNat_natCast, if_pos h]
  have HPN : Hid (∀ er, (buildK r [] es).1 = er → er ≠ 0 → buildE5 r es = ([], er)) := Lib.hid fun er h h0 => by unfold buildE5; rw [if_neg hR, Int.toNat_natCast, h, if_neg h0]
  clear hR
  go_enter Tryd.func10, Tryd.ntmps10
  go_wp2_with (go_at_call 22; go_must (refine (begin_ok r _ hr1 hr2).mono ?_); rintro e z1 ⟨g, os, rfl, hB, hX⟩; have HB := Lib.hid hB; have HX := Lib.hid hX; clear hB hX)
  go_loopw [7, 8] (fun e i wr => ∃ (k : Nat) (er : Int), k ≤ n ∧ i = .int .i64 k ∧ e = .int .i64 er ∧ Hid (Below w.heap.size w wr) ∧ Hid (er = 0 → (buildK r [] (es.take k)).1 = 0 ∧ ∃ os, Bld r (es.take k) g os ∧ OW w os wr) ∧ Hid (er ≠ 0 → (buildK r [] es).1 = er)) (fun _ i _ => n - (intOf i).toNat)
  case atStart => exact ⟨0, 0, Nat.zero_le _, rfl, rfl, Lib.hid HX.out.up, Lib.hid fun _ => ⟨rfl, os, HB.out, HX.out⟩, Lib.hid fun h => absurd rfl h⟩
  case round =>
    obtain ⟨k, er, hk, rfl, rfl, HW, HO, HN⟩ := hrel
    clear HB HX
    by_cases he : er = 0
    case neg =>
      have hde : (er == 0) = false := beq_eq_false_iff_ne.2 he
      have hde2 : (er != 0) = true := bne_iff_ne.2 he
      have HQ := Lib.hid (HPN.out er (HN.out he) he)
      clear HO HN he
      by_cases hlt : k < n
      · have hd : decide ((k : Int) < (n : Int)) = true := decide_eq_true (by omega)
        go_wp2_with fail
        go_ret2
        rw [HQ.out]
        exact bytes_post2 (n := 0) (own_nil _ _ _ _) HW.out
      · have hd : decide ((k : Int) < (n : Int)) = false := decide_eq_false (by omega)
        go_wp2_with fail
        go_ret2
        rw [HQ.out]
        exact bytes_post2 (n := 0) (own_nil _ _ _ _) HW.out
    subst he
    obtain ⟨h1, os, h2, h3⟩ := HO.out rfl
    have HB := Lib.hid h2
    have HX := Lib.hid h3
    have HK := Lib.hid h1
    clear HO HN h1 h2 h3
    by_cases hlt : k < n
    case neg =>
      have hd : decide ((k : Int) < (n : Int)) = false := decide_eq_false (by omega)
      have HT : Hid (es.take k = es) := Lib.hid (take_all (by have := HLE.out; omega))
      have HQ : Hid (buildE5 r es = finE r (es.take k)) := Lib.hid (by rw [HT.out]; exact HPO.out (by have := HK.out; rwa [HT.out] at this))
      go_wp2_with (go_at_call 24; go_must (refine (finish_any (rest := []) HB.out (by rw [List.append_nil]; exact HX.out) (HTB.out _ HX.out.up)).mono ?_); rintro e z2 hp; obtain ⟨A2, c2, rfl, ho, hb⟩ := hp; have HO2 := Lib.hid ho; have HB2 := Lib.hid (HX.out.up.trans (hb.mono HX.out.up.size)); have HX2 := Lib.hid HX.out.up.size; clear ho hb)
      go_ret2
      rw [HQ.out]
      exact ⟨A2, c2, rfl, own_rebase HO2.out HX2.out, HB2.out⟩
    have hd : decide ((k : Int) < (n : Int)) = true := decide_eq_true (by omega)
    obtain ⟨b, o, Ar, ec, B, d, D, q, e, rfl, hbl, hek, hrg, hen⟩ := (HES.out w (Below.refl _ _)).at_ hlt
    have HST := Lib.hid (addC_step hek HK.out)
    have HRG : Hid (wr.rangeAt b (o + k * 7) [.slice Ar e.row.length ec, .int .i64 e.fam, .slice B e.qual.length d, .int .i64 e.ts, .int .i64 e.seq, .int .i64 e.kind, .slice D e.val.length q]) := Lib.hid fun j v hj => (HW.out.cell (p := ⟨b, _, none⟩) hbl).trans (hrg j v hj)
    have HEN : Hid (∀ us z, OW w (us ++ []) z → En z Ar e.row.length ec B e.qual.length d D e.val.length q e) := Lib.hid fun us z hz => hen.later hz.up
    clear hek hrg hen
    have i1 : (0 : Int) ≤ (k : Int) := by omega
    have i2 : (k : Int) < (n : Int) := by omega
    go_wp2_with (first
      | (refine wpList_load_at rfl 37 (.tmp 27) rfl rfl HRG.out ent_row5 ?_)
      | (go_at_call 23; go_must (refine (add_any (rest := []) HB.out (by rw [List.append_nil]; exact HX.out) e Ar _ ec B _ d D _ q HEN.out).mono ?_); rintro e2 z2 ⟨rfl, os2, hb2, hx2⟩; have HB2 := Lib.hid hb2; have HX2 := Lib.hid hx2; clear hb2 hx2))
    go_roundw
    case rel =>
      refine ⟨k + 1, _, by omega, rfl, by go_num, Lib.hid HX2.out.up, Lib.hid fun h => ?_, Lib.hid fun h => HST.out.2 h⟩
      obtain ⟨e3, e4⟩ := HST.out.1 h
      have h5 := HB2.out
      have h6 := HX2.out
      rw [e3] at h5
      rw [List.append_nil] at h6
      exact ⟨e4, os2, h5, h6⟩
    case measure => simp [intOf]; omega
end Go.Proofs.YtmigjipfomfacaaDoor
namespace Go.Proofs.YtmigjipfomfacaaDoor
open Go.RowKit
abbrev ZR := ER × (Option Addr × Nat × List UInt8)
def rowsZ (z : ZR) : RowL := [(z.1.A, z.1.c, z.1.e.row), (z.1.B, z.1.d, z.1.e.qual), (z.1.D, z.1.q, z.1.e.val), z.2]
def blkO (R g : Nat) (lv kv : Value) (zs : List ZR) : List Ob :=
  boxO g [i64v R, lv, kv] :: rowO 37 7 lv zs.length (zs.flatMap (·.1.cells)) :: rowO 24 1 kv zs.length (zs.map (valR ·.2)) :: (zs.reverse.flatMap rowsZ).map (bytO 5)
def ZOk (zs : List ZR) : Prop := ∀ z, z ∈ zs → z.2.2.2 = keyE z.1.e ∧ (keyE z.1.e).length ≤ 1048
def entsZ (zs : List ZR) : List Ent := zs.map (·.1.e)
theorem rowZ_mem {zs : List ZR} {z : ZR} {r : Option Addr × Nat × List UInt8} (hz : z ∈ zs) (hr : r ∈ rowsZ z) {R g : Nat} {lv kv : Value} : bytO 5 r ∈ blkO R g lv kv zs :=
  List.mem_cons_of_mem _ (List.mem_cons_of_mem _ (List.mem_cons_of_mem _ (List.mem_map_of_mem (List.mem_flatMap.2 ⟨z, List.mem_reverse.2 hz, hr⟩))))
set_option maxRecDepth 100000 in
theorem need_any (er : Int) {w x : World} {os : List Ob} {gk : Nat} (i : Nat) (h : OW w os x) (hi : os[i]? = some (boxO gk [.bool true])) :
    Calls Tryd.prog 78 #[.int .i64 er, .pointer (some ⟨gk, 0, none⟩)] x fun e y => e = .returned (.bool (er == 0)) ∧ OW w (os.set i (boxO gk [.bool (er == 0)])) y := by
  have HX := Lib.hid h
  have HI := Lib.hid hi
  clear h hi
  go_enter Tryd.func78, Tryd.ntmps78
  go_wp2_with (first
    | (refine wpList_load_cell rfl 4 (.tmp 1) rfl rfl (show _ = some (Value.bool true) from HX.out.cell HI.out (j := 0) rfl) (fun w => Tryd.isAgg4 w) ?_)
    | (refine wl_put1 rfl (.tmp 1) (.tmp 8) rfl HX.out i HI.out 0 rfl (by decide) (.bool (er == 0)) rfl (by kernel_rfl) rfl ?_; intro x2 hz _; have HY : Hid (OW w (os.set i (boxO gk [.bool (er == 0)])) x2) := Lib.hid hz; have hc : x2.cell? ⟨gk, 0, none⟩ = some (.bool (er == 0)) := HY.out.cell (by rw [List.getElem?_set_self (List.getElem?_eq_some_iff.1 HI.out).1]) (j := 0) rfl; clear hz))
  go_ret
  exact ⟨rfl, HY.out⟩
end Go.Proofs.YtmigjipfomfacaaDoor
namespace Go.Proofs.YtmigjipfomfacaaDoor
open Go.RowKit
theorem readBy_le5 (l : List UInt8) (a most : Int) : (readBy l a most).1.length ≤ l.length := by
  unfold readBy
  split
  · exact Nat.zero_le _
  · split
    · exact Nat.zero_le _
    · split
      · exact Nat.zero_le _
      · split
        · exact Nat.zero_le _
        · unfold cutS; simp only [List.length_take, List.length_drop]; omega
def ReadP (w : World) (R g : Nat) (rest : List Ob) (b : List UInt8) (N : Nat) (e : Ending) (z : World) : Prop :=
  ∃ lv kv zs, OW w (blkO R g lv kv zs ++ rest) z ∧ ZOk zs ∧ ((∃ key a, rdF b N = some (entsZ zs, key, a) ∧ e = .returned (.bool true)) ∨ (rdF b N = none ∧ e = .returned (.bool false)))
theorem entsZ_snoc (zs : List ZR) (z : ZR) : entsZ (zs ++ [z]) = entsZ zs ++ [z.1.e] := by unfold entsZ; rw [List.map_append]; rfl
theorem Tryd.entsS : SliceOf Tryd.prog 22 37 7 104 := SliceOf.mk' (z := .agg #[.slice none 0 0, .int .i64 0, .slice none 0 0, .int .i64 0, .int .i64 0, .int .i64 0, .slice none 0 0]) Tryd.underlying22 (by kernel_rfl) rfl (by decide)
theorem Tryd.keyS5 : SliceOf Tryd.prog 52 24 1 24 := SliceOf.mk' (z := .slice none 0 0) Tryd.underlying52 (by kernel_rfl) rfl (by decide)
def KeyAt (zs : List ZR) (A : Option Addr) (c : Nat) (key : List UInt8) : Prop := (A = none ∧ c = 0 ∧ key = []) ∨ ∃ z, z ∈ zs ∧ z.2 = (A, c, key)
theorem KeyAt.sl {zs : List ZR} {A : Option Addr} {c kl : Nat} {key : List UInt8} (h : KeyAt zs A c key) (hk : key.length = kl) {w x : World} {os : List Ob} (hx : OW w os x) (hm : ∀ z, z ∈ zs → bytO 5 z.2 ∈ os) : Sl x A kl c key := by
  rcases h with ⟨rfl, rfl, rfl⟩ | ⟨z, hz, e⟩
  · subst hk; exact Sl.none _
  · exact hx.slm (by rw [← e]; exact hm z hz) hk
theorem KeyAt.len {zs : List ZR} {A : Option Addr} {c : Nat} {key : List UInt8} (h : KeyAt zs A c key) (hz : ZOk zs) : key.length ≤ 1048 := by
  rcases h with ⟨_, _, rfl⟩ | ⟨z, hm, e⟩
  · exact Nat.zero_le _
  · obtain ⟨h1, h2⟩ := hz z hm
    rw [e] at h1
    have h1 : key = keyE z.1.e := h1
    rw [h1]; exact h2
set_option maxRecDepth 100000 in
set_option maxHeartbeats 4000000 in
theorem read_any {w x : World} {R g : Nat} {rest : List Ob} (h : OW w (blkO R g (.slice none 0 0) (.slice none 0 0) [] ++ rest) x) (b : List UInt8) (A : Option Addr) (n c N : Nat) (hn : n ≤ 1099511000000) (hN : N < 4294967296) (HS0 : ∀ z, Below w.heap.size w z → Sl z A n c b) :
    Calls Tryd.prog 45 #[.pointer (some ⟨g, 0, none⟩), .slice A n c, .int .i64 N] x (ReadP w R g rest b N) := by
  have HX := Lib.hid h
  have HS := Lib.hid HS0
  have HL : Hid (b.length = n) := Lib.hid (HS0 x h.up).rb.len
  clear h HS0
  go_enter Tryd.func45, Tryd.ntmps45
  go_wp2_with (first
    | (refine wl_alloc rfl rfl [.bool false] (.inr ⟨.bool false, (by kernel_rfl), rfl⟩) HX.out ?_; intro gk z1 hz _; replace HX := Lib.hid (hz.perm List.perm_append_comm); clear hz)
    | (refine wl_put1 rfl (.tmp 9) _ rfl HX.out 0 rfl 0 rfl (by decide) (.bool true) rfl (by kernel_rfl) rfl ?_; intro z2 hz _; have HX2 : Hid (OW w (boxO gk [.bool true] :: (blkO R g (.slice none 0 0) (.slice none 0 0) [] ++ rest)) z2) := Lib.hid hz; clear hz HX))
  go_loopw [7, 8, 19] (fun av kv i wr => ∃ (k a : Nat) (zs : List ZR) (lv sv : Value) (KA : Option Addr) (kl kc : Nat) (key : List UInt8), k ≤ N ∧ i = .int .i64 k ∧ av = .int .i64 a ∧ kv = .slice KA kl kc ∧ kl ≤ 1048 ∧ Hid (key.length = kl) ∧ Hid (KeyAt zs KA kc key) ∧ Hid (ZOk zs ∧ zs.length = k) ∧ Hid (rdF b k = some (entsZ zs, key, a)) ∧ Hid (OW w (boxO gk [.bool true] :: (blkO R g lv sv zs ++ rest)) wr)) (fun _ _ i _ => N - (intOf i).toNat)
  case atStart => exact ⟨0, 0, [], _, _, none, 0, 0, [], Nat.zero_le _, rfl, rfl, rfl, Nat.zero_le _, Lib.hid rfl, Lib.hid (.inl ⟨rfl, rfl, rfl⟩), Lib.hid ⟨(fun z h => by cases h), rfl⟩, Lib.hid rfl, HX2⟩
  case round =>
    clear HX2
    obtain ⟨k, a, zs, lv, sv, KA, kl, kc, key, hk, rfl, rfl, rfl, hkl, HKL, HKA, HZ, HRD, HX⟩ := hrel
    have hfail : Hid (∀ z os', OW w os' z → (blkO R g lv sv zs ++ rest).Sublist os' → rd1 b a key = none → k < N → ReadP w R g rest b N (.returned (.bool false)) z) := Lib.hid fun z os' h1 h2 h3 h4 => ⟨lv, sv, zs, h1.sub h2, HZ.out.1, .inr ⟨rdF_stop HRD.out h3 h4, rfl⟩⟩
    by_cases hlt : k < N
    case neg =>
      have hd : decide ((k : Int) < (N : Int)) = false := decide_eq_false (by omega)
      have hkN : k = N := by omega
      have HKN := Lib.hid hkN
      clear hkN
      go_wp2_with fail
      go_ret
      exact ⟨lv, sv, zs, HX.out.sub ((List.Sublist.refl _).cons _), HZ.out.1, .inl ⟨key, a, by rw [← HKN.out]; exact HRD.out, rfl⟩⟩
    have hd : decide ((k : Int) < (N : Int)) = true := decide_eq_true (by omega)
    obtain ⟨u, p1, e1, hR1⟩ : ∃ u p1 e1, readU b (a : Nat) = (u, p1, e1) := ⟨_, _, _, rfl⟩
    have R1 := Lib.hid hR1
    clear hR1
    by_cases he1 : e1 = 0
    case neg =>
      have HD1 : Hid (((e1 : Int) == 0) = false) := Lib.hid (beq_eq_false_iff_ne.2 (by omega))
      have HE := Lib.hid he1
      clear he1
      go_wp2_with (first
        | (go_at_call 79; go_must (refine (ru_any b A n c a _ (by omega) (HS.out _ HX.out.up).rb).mono ?_); rw [R1.out]; rintro r w1 ⟨rfl, rfl⟩)
        | (go_at_call 78; go_must (refine (need_any (e1 : Int) 0 HX.out rfl).mono ?_); rw [HD1.out]; rintro r x1 ⟨rfl, hz⟩; have HX1 : Hid (OW w (boxO gk [.bool false] :: (blkO R g lv sv zs ++ rest)) x1) := Lib.hid hz; clear hz))
      go_ret
      exact hfail.out _ _ HX1.out ((List.Sublist.refl _).cons _) (rd1_a R1.out HE.out) hlt
    have HD1 : Hid (((e1 : Int) == 0) = true) := Lib.hid (by rw [he1]; rfl)
    have HE1 := Lib.hid he1
    clear he1
    have hu64 : u < 18446744073709551616 := by have h1 := readU_val b (a : Nat); rw [R1.out] at h1; exact h1
    by_cases hu : kl < u
    case pos =>
      have hd2 : decide ((u : Int) > (kl : Int)) = true := decide_eq_true (by omega)
      go_wp2_with (first
        | (go_at_call 79; go_must (refine (ru_any b A n c a _ (by omega) (HS.out _ HX.out.up).rb).mono ?_); rw [R1.out]; rintro r w1 ⟨rfl, rfl⟩)
        | (go_at_call 78; go_must (refine (need_any (e1 : Int) 0 HX.out rfl).mono ?_); rw [HD1.out]; rintro r x1 ⟨rfl, hz⟩; have HX1 : Hid (OW w (boxO gk [.bool true] :: (blkO R g lv sv zs ++ rest)) x1) := Lib.hid hz; clear hz))
      go_ret
      exact hfail.out _ _ HX1.out ((List.Sublist.refl _).cons _) (rd1_b R1.out (by rw [HKL.out]; exact hu)) hlt
    have hd2 : decide ((u : Int) > (kl : Int)) = false := decide_eq_false (by omega)
    obtain ⟨k2, p2, e2, hR2⟩ : ∃ k2 p2 e2, readBy b (p1 : Nat) (n : Nat) = (k2, p2, e2) := ⟨_, _, _, rfl⟩
    have R2 := Lib.hid hR2
    obtain ⟨k2n, hk2n⟩ : ∃ z, z = k2.length := ⟨_, rfl⟩
    have HK2 := Lib.hid hk2n.symm
    have R1' : Hid (readU b (a : Nat) = (u, p1, 0)) := Lib.hid (by rw [← HE1.out]; exact R1.out)
    have R2L : Hid (readBy b (p1 : Nat) (b.length : Nat) = (k2, p2, e2)) := Lib.hid (by rw [HL.out]; exact R2.out)
    have hk2b : k2n ≤ 1099511000000 := by
      have h1 := readBy_le5 b (p1 : Int) (n : Int)
      rw [R2.out] at h1
      have h1 : k2.length ≤ b.length := h1
      have := HL.out
      omega
    obtain ⟨bo2, hbo2⟩ : ∃ z : Bool, ((e2 : Int) == 0) = z := ⟨_, rfl⟩
    have HD2 := Lib.hid hbo2
    clear hR2 hk2n hbo2
    have tk1 : True := trivial
    have tk2 : True := trivial
    go_upto_if 51 with (first
      | (go_at_call 79; go_must (refine (ru_any b A n c a _ (by omega) (HS.out _ HX.out.up).rb).mono ?_); rw [R1.out]; rintro r w1 ⟨rfl, rfl⟩)
      | (go_at_call 78; have _t := tk1; go_must (refine (need_any (e1 : Int) 0 HX.out rfl).mono ?_); rw [HD1.out]; rintro r x1 ⟨rfl, hz⟩; have HX1 : Hid (OW w (boxO gk [.bool true] :: (blkO R g lv sv zs ++ rest)) x1) := Lib.hid hz; clear hz tk1)
      | (go_at_call 80; go_must (refine (rby_any b A n c p1 n _ (HS.out _ HX1.out.up) (by omega) (by omega)).mono ?_); rw [R2.out]; rintro r x2 hp; obtain ⟨A3, c3, rfl, hs3, ho, hb⟩ := hp.at_ HK2.out rfl rfl; have HX2 := Lib.hid (HX1.out.addF9 (OW.byt1 hb ho)); clear hp ho hb hs3 HX1)
      | (go_at_call 78; have _t := tk2; go_must (refine (need_any (e2 : Int) 1 HX2.out rfl).mono ?_); rw [HD2.out]; rintro r x3 ⟨rfl, hz⟩; have HX3 : Hid (OW w (bytO 5 (A3, c3, k2) :: boxO gk [.bool bo2] :: (blkO R g lv sv zs ++ rest)) x3) := Lib.hid hz; clear hz tk2 HX2))
    clear HX
    cases bo2 with
    | false =>
      have hE2 : e2 ≠ 0 := fun h => by have h1 := HD2.out; rw [h] at h1; cases h1
      have HE2 := Lib.hid hE2
      clear hE2
      go_wp2_with fail
      go_ret
      exact hfail.out _ _ HX3.out (((List.Sublist.refl _).cons _).cons _) (rd1_c R1'.out (by rw [HKL.out]; omega) R2L.out HE2.out) hlt
    | true =>
    have HE2 : Hid (e2 = 0) := Lib.hid (by have h1 := HD2.out; rw [beq_iff_eq] at h1; omega)
    obtain ⟨vv, p3, e3, hR3⟩ : ∃ vv p3 e3, readBy b (p2 : Nat) 4096 = (vv, p3, e3) := ⟨_, _, _, rfl⟩
    have R3 := Lib.hid hR3
    obtain ⟨vn, hvn⟩ : ∃ z, z = vv.length := ⟨_, rfl⟩
    have HVN := Lib.hid hvn.symm
    obtain ⟨bo3, hbo3⟩ : ∃ z : Bool, ((e3 : Int) == 0) = z := ⟨_, rfl⟩
    have HD3 := Lib.hid hbo3
    clear hR3 hvn hbo3
    have R2' : Hid (readBy b (p1 : Nat) (b.length : Nat) = (k2, p2, 0)) := Lib.hid (by rw [R2L.out, HE2.out])
    have tk2 : True := trivial
    go_upto_if 62 with (first
      | (go_at_call 80; go_must (refine (rby_any b A n c p2 4096 _ (HS.out _ HX3.out.up) (by omega) (by omega)).mono ?_); rw [R3.out]; rintro r x4 hp; obtain ⟨A4, c4, rfl, hs4, ho, hb⟩ := hp.at_ HVN.out rfl rfl; have HX4 := Lib.hid (HX3.out.addF9 (OW.byt1 hb ho)); clear hp ho hb hs4)
      | (go_at_call 78; have _t := tk2; go_must (refine (need_any (e3 : Int) 2 HX4.out rfl).mono ?_); rw [HD3.out]; rintro r x5 ⟨rfl, hz⟩; have HX5 : Hid (OW w (bytO 5 (A4, c4, vv) :: bytO 5 (A3, c3, k2) :: boxO gk [.bool bo3] :: (blkO R g lv sv zs ++ rest)) x5) := Lib.hid hz; clear hz tk2))
    clear HX3
    cases bo3 with
    | false =>
      have hE3 : e3 ≠ 0 := fun h => by have h1 := HD3.out; rw [h] at h1; cases h1
      have HE3 := Lib.hid hE3
      clear hE3
      go_wp2_with fail
      go_ret
      exact hfail.out _ _ HX5.out ((((List.Sublist.refl _).cons _).cons _).cons _) (rd1_d R1'.out (by rw [HKL.out]; omega) R2'.out R3.out HE3.out) hlt
    | true =>
    have HE3 : Hid (e3 = 0) := Lib.hid (by have h1 := HD3.out; rw [beq_iff_eq] at h1; omega)
    have R3' : Hid (readBy b (p2 : Nat) 4096 = (vv, p3, 0)) := Lib.hid (by rw [R3.out, HE3.out])
    obtain ⟨K, hK⟩ : ∃ z, z = key.take u ++ k2 := ⟨_, rfl⟩
    obtain ⟨kn, hkn⟩ : ∃ z, z = K.length := ⟨_, rfl⟩
    obtain ⟨pe, pf, hP⟩ : ∃ pe pf, ParseKeyE K = (pe, pf) := ⟨_, _, rfl⟩
    obtain ⟨bo4, hbo4⟩ : ∃ z : Bool, (pf == 0) = z := ⟨_, rfl⟩
    have HK := Lib.hid hK
    have HKN := Lib.hid hkn.symm
    have HP := Lib.hid hP
    have HD4 := Lib.hid hbo4
    have hknb : kn ≤ 1099511001048 := by rw [hkn, hK, List.length_append, List.length_take]; have := HKL.out; have := HK2.out; omega
    have HFL : Hid ([key.take u, k2].flatten = K) := Lib.hid (by rw [hK]; simp)
    have hkcap : kl ≤ kc := by
      have h1 := (HKA.out.sl HKL.out HX5.out fun z hz => List.mem_cons_of_mem _ (List.mem_cons_of_mem _ (List.mem_cons_of_mem _ (List.mem_append_left _ (rowZ_mem hz (by simp [rowsZ])))))).cap
      exact h1
    have HSK : Hid (Sl x5 KA u kc (key.take u)) := Lib.hid ((HKA.out.sl HKL.out HX5.out fun z hz => List.mem_cons_of_mem _ (List.mem_cons_of_mem _ (List.mem_cons_of_mem _ (List.mem_append_left _ (rowZ_mem hz (by simp [rowsZ])))))).take (by omega))
    have HSR : Hid (Sl x5 A3 k2n c3 k2) := Lib.hid (HX5.out.sl (i := 1) rfl HK2.out)
    clear hK hkn hP hbo4
    have i1 : (0 : Int) ≤ (u : Int) := by omega
    have i2 : (u : Int) ≤ (kc : Int) := by omega
    have tk3 : True := trivial
    go_upto_if 77 with (first
      | (go_at_call 81; go_must (refine (sconcat_any [key.take u, k2] _ 2 2 _ (by omega) (by exact rbs_two HSK.out HSR.out _ _) (by rw [HFL.out, HKN.out]; omega)).mono ?_); rw [HFL.out]; rintro r x6 hp; obtain ⟨A5, c5, rfl, _, ho, hb⟩ := hp.at_ HKN.out; have HX6 := Lib.hid ((HX5.out.al (.cells #[.slice KA u kc, .slice A3 k2n c3] 24)).addF9 (OW.byt1 hb ho)); clear hp ho hb)
      | (go_at_call 82; go_must (refine (parsekey_any K A5 kn c5 _ (HX6.out.sl (i := 0) rfl HKN.out) (by omega)).mono ?_); rw [HP.out]; rintro r x7 ⟨A6, c6, B6, d6, D6, q6, rfl, hr, hb⟩; have HX7 := Lib.hid (HX6.out.addF9 (OW.rows1 hb hr)); clear hr hb)
      | (refine wl_alloc rfl rfl [.slice none 0 0, .int .i64 0, .slice none 0 0, .int .i64 0, .int .i64 0, .int .i64 0, .slice none 0 0] (.inl (by kernel_rfl)) HX7.out ?_; intro ge z8 hz _; have HX8 := Lib.hid (hz.perm List.perm_append_comm); clear hz)
      | (refine wl_put rfl (.tmp 16) (.tmp 72) rfl HX8.out 0 rfl rfl [.slice A6 pe.row.length c6, .int .i64 pe.fam, .slice B6 pe.qual.length d6, .int .i64 pe.ts, .int .i64 pe.seq, .int .i64 pe.kind, .slice D6 pe.val.length q6] rfl rfl (by kernel_rfl) (by simp [Value.oneCell']) ?_; intro z9 hz _; have HX9 := Lib.hid hz; clear hz HX8)
      | (go_at_call 78; have _t := tk3; go_must (refine (need_any pf 7 HX9.out rfl).mono ?_); rw [HD4.out]; rintro r x9 ⟨rfl, hz⟩; have HX10 : Hid (OW w (boxO ge [.slice A6 pe.row.length c6, .int .i64 pe.fam, .slice B6 pe.qual.length d6, .int .i64 pe.ts, .int .i64 pe.seq, .int .i64 pe.kind, .slice D6 pe.val.length q6] :: bytO 5 (A6, c6, pe.row) :: bytO 5 (B6, d6, pe.qual) :: bytO 5 (D6, q6, pe.val) :: bytO 5 (A5, c5, K) :: bytO 5 (A4, c4, vv) :: bytO 5 (A3, c3, k2) :: boxO gk [.bool bo4] :: (blkO R g lv sv zs ++ rest)) x9) := Lib.hid hz; clear hz tk3))
    clear HX5 HX6 HX7 HX9
    have HL1 : Hid (zs.length = k) := Lib.hid HZ.out.2
    cases bo4 with
    | false =>
      have hE4 : pf ≠ 0 := fun h => by have h1 := HD4.out; rw [h] at h1; cases h1
      have HE4 := Lib.hid hE4
      clear hE4
      go_wp2_with fail
      go_ret
      exact hfail.out _ _ HX10.out (.cons _ (.cons _ (.cons _ (.cons _ (.cons _ (.cons _ (.cons _ (.cons _ (List.Sublist.refl _))))))))) (rd1_e R1'.out (by rw [HKL.out]; omega) R2'.out R3'.out (by rw [← HK.out]; exact HP.out) HE4.out) hlt
    | true =>
    have hE4 : pf = 0 := by have h1 := HD4.out; rw [beq_iff_eq] at h1; exact h1
    have HPI := ParseKey_is (b := K) (by rw [HP.out]; exact hE4)
    rw [HP.out] at HPI
    have HPE := Lib.hid HPI
    have hkn3 : kn ≤ 1048 := by have h1 := keyE_len HPI.1; rw [HPI.2.1, HKN.out] at h1; exact h1
    have HRG : Hid (rdF b (k + 1) = some (entsZ zs ++ [{ pe with val := vv }], K, p3)) := Lib.hid (rdF_go HRD.out (by
      have h1 := rd1_ok (key := key) R1'.out (by rw [HKL.out]; omega) R2'.out R3'.out (by rw [← HK.out, HP.out, hE4])
      rw [← HK.out] at h1
      exact h1))
    clear hE4 HPI
    obtain ⟨LA, lc, hlv, _⟩ := own_slice (HX10.out.row (i := 9) rfl)
    obtain ⟨SA, sc, hsv, _⟩ := own_slice (HX10.out.row (i := 10) rfl)
    obtain ⟨M, hM⟩ : ∃ z, z = (zs.reverse.flatMap rowsZ).map (bytO 5) ++ rest := ⟨_, rfl⟩
    obtain ⟨EC, hEC⟩ : ∃ z, z = zs.flatMap (·.1.cells) := ⟨_, rfl⟩
    obtain ⟨KC, hKC⟩ : ∃ z, z = zs.map (valR ·.2) := ⟨_, rfl⟩
    have HX11 : Hid (OW w (boxO ge [.slice A6 pe.row.length c6, .int .i64 pe.fam, .slice B6 pe.qual.length d6, .int .i64 pe.ts, .int .i64 pe.seq, .int .i64 pe.kind, .slice D6 pe.val.length q6] :: bytO 5 (A6, c6, pe.row) :: bytO 5 (B6, d6, pe.qual) :: bytO 5 (D6, q6, pe.val) :: bytO 5 (A5, c5, K) :: bytO 5 (A4, c4, vv) :: bytO 5 (A3, c3, k2) :: boxO gk [.bool true] :: boxO g [i64v R, .slice LA k lc, .slice SA k sc] :: rowO 37 7 (.slice LA k lc) (k) (EC) :: rowO 24 1 (.slice SA k sc) (k) (KC) :: M) x9) := Lib.hid (by
      have h := HX10.out
      rw [hlv, hsv] at h
      unfold blkO at h
      rw [HL1.out, ← hEC, ← hKC, List.cons_append, List.cons_append, List.cons_append, ← hM] at h
      exact h)
    have HM := Lib.hid hM
    have HEC := Lib.hid hEC
    have HKC := Lib.hid hKC
    clear HX10 hM hEC hKC hlv hsv
    go_wp2_with (refine wl_put1 rfl (.tmp 79) (.tmp 78) rfl HX11.out 0 rfl 6 rfl (by show 6 < 7; decide) (.slice A4 vn c4) rfl (by kernel_rfl) rfl ?_; intro x10 hz _; have HX12 : Hid (OW w (boxO ge [.slice A6 pe.row.length c6, .int .i64 pe.fam, .slice B6 pe.qual.length d6, .int .i64 pe.ts, .int .i64 pe.seq, .int .i64 pe.kind, .slice A4 vn c4] :: bytO 5 (A6, c6, pe.row) :: bytO 5 (B6, d6, pe.qual) :: bytO 5 (D6, q6, pe.val) :: bytO 5 (A5, c5, K) :: bytO 5 (A4, c4, vv) :: bytO 5 (A3, c3, k2) :: boxO gk [.bool true] :: boxO g [i64v R, .slice LA k lc, .slice SA k sc] :: rowO 37 7 (.slice LA k lc) (k) (EC) :: rowO 24 1 (.slice SA k sc) (k) (KC) :: M) x10) := Lib.hid hz; clear hz HX11)
    refine lt_start [7, 10] (by kernel_rfl) ?_
    intro xd hd
    refine ⟨fun z => OW w (boxO ge [.slice A6 pe.row.length c6, .int .i64 pe.fam, .slice B6 pe.qual.length d6, .int .i64 pe.ts, .int .i64 pe.seq, .int .i64 pe.kind, .slice A4 vn c4] :: bytO 5 (A6, c6, pe.row) :: bytO 5 (B6, d6, pe.qual) :: bytO 5 (D6, q6, pe.val) :: bytO 5 (A5, c5, K) :: bytO 5 (A4, c4, vv) :: bytO 5 (A3, c3, k2) :: boxO gk [.bool true] :: boxO g [i64v R, .slice LA k lc, .slice SA k sc] :: rowO 37 7 (.slice LA k lc) (k) (EC) :: rowO 24 1 (.slice SA k sc) (k) (KC) :: M) z, ?_⟩
    have HS2 := Lib.hid (HX12.out.later hd)
    refine lt_pure 0 rfl (by kernel_rfl) (by kernel_rfl) (by kernel_rfl) (by kernel_rfl) (fun _ _ _ h => h) (v := ?_) (yi_run rfl (fun w => ?_)) (fun _ => HS2.out) ?_
    rotate_left
    · first | (go_simp; done) | (go_simp; with_reducible rfl)
    simp only [Act.put, List.setIfInBounds_toArray, List.set_cons_zero, List.set_cons_succ]
    refine lt_pure 1 rfl (by kernel_rfl) (by kernel_rfl) (by kernel_rfl) (by kernel_rfl) (fun _ _ _ h => h) (v := ?_) (yi_run rfl (fun w => ?_)) (fun _ => HS2.out) ?_
    rotate_left
    · first | (go_simp; done) | (go_simp; with_reducible rfl)
    simp only [Act.put, List.setIfInBounds_toArray, List.set_cons_zero, List.set_cons_succ]
    refine lt_pure 2 rfl (by kernel_rfl) (by kernel_rfl) (by kernel_rfl) (by kernel_rfl) (fun _ _ _ h => h) (v := ?_) (yi_run rfl (fun w => ?_)) (fun _ => HS2.out) ?_
    rotate_left
    · first | (go_simp; done) | (go_simp; with_reducible rfl)
    simp only [Act.put, List.setIfInBounds_toArray, List.set_cons_zero, List.set_cons_succ]
    refine lt_pure 3 rfl (by kernel_rfl) (by kernel_rfl) (by kernel_rfl) (by kernel_rfl) (fun _ _ _ h => h) (v := ?_) (yi_run rfl (fun w => ?_)) (fun _ => HS2.out) ?_
    rotate_left
    · first | (go_simp; done) | (go_simp; with_reducible rfl)
    simp only [Act.put, List.setIfInBounds_toArray, List.set_cons_zero, List.set_cons_succ]
    refine lt_take 4 [7, 8, 9, 10] rfl (by kernel_rfl) (by kernel_rfl) (by kernel_rfl) (by kernel_rfl) (by kernel_rfl) (fun _ _ _ h => h) (yi_cell rfl rfl rfl (fun w hS => OW.cell hS (i := 8) (j := 1) rfl rfl) (fun w => Tryd.isAgg22 w)) HS2.out ?_
    simp only [Act.put, List.setIfInBounds_toArray, List.set_cons_zero, List.set_cons_succ]
    refine lt_take 5 [6, 7, 8, 9, 10] rfl (by kernel_rfl) (by kernel_rfl) (by kernel_rfl) (by kernel_rfl) (by kernel_rfl) (fun _ _ _ h => h) (yi_row rfl rfl rfl (fun w hS => OW.range hS (i := 0) rfl) ent_row5) HS2.out ?_
    simp only [Act.put, List.setIfInBounds_toArray, List.set_cons_zero, List.set_cons_succ]
    refine lt_op 6 rfl (by kernel_rfl) rfl ?_
    refine wpo_build rfl #[.slice A6 pe.row.length c6, .int .i64 pe.fam, .slice B6 pe.qual.length d6, .int .i64 pe.ts, .int .i64 pe.seq, .int .i64 pe.kind, .slice A4 vn c4] Tryd.entsS (.agg #[.slice none 0 0, .int .i64 0, .slice none 0 0, .int .i64 0, .int .i64 0, .int .i64 0, .slice none 0 0]) (by kernel_rfl) (by decide) (by decide) (by decide) rfl (by kernel_rfl) HS2.out ?_
    intro g4 y4 hz hb
    have HR : Hid (Reads y4 y4.heap.size 7 (some ⟨g4, 0, none⟩) 1 [.slice A6 pe.row.length c6, .int .i64 pe.fam, .slice B6 pe.qual.length d6, .int .i64 pe.ts, .int .i64 pe.seq, .int .i64 pe.kind, .slice A4 vn c4]) := Lib.hid (Reads.own (OW.row (OW.right hz) (i := 0) rfl))
    replace HS2 := Lib.hid (HS2.out.later hb)
    clear hz hb
    refine ⟨fun _ => HS2.out, ?_⟩
    simp only [Act.put, List.setIfInBounds_toArray, List.set_cons_zero, List.set_cons_succ]
    refine lt_end 7 rfl (by kernel_rfl) rfl (by kernel_rfl) ?_
    refine wpo_append (.tmp 84) (.tmp 86) rfl Tryd.entsS HS2.out 9 rfl rfl _ (some ⟨g4, 0, none⟩) 1 1 [.slice A6 pe.row.length c6, .int .i64 pe.fam, .slice B6 pe.qual.length d6, .int .i64 pe.ts, .int .i64 pe.seq, .int .i64 pe.kind, .slice A4 vn c4] rfl HR.out (by simp [Value.oneCell']) (by unfold maxLen; omega) (by omega) ?_
    intro A7 c7 y5 hz _
    have HY := Lib.hid hz
    clear hz HR
    simp only [Act.put, List.setIfInBounds_toArray, List.set_cons_zero, List.set_cons_succ]
    refine lt_pureF 8 rfl (by kernel_rfl) (by kernel_rfl) (by kernel_rfl) (by kernel_rfl) (by kernel_rfl) (fun _ _ _ h => h) (v := ?_) (yi_run rfl (fun w => ?_)) ?_
    rotate_left
    · first | (go_simp; done) | (go_simp; with_reducible rfl)
    simp only [Act.put, List.setIfInBounds_toArray, List.set_cons_zero, List.set_cons_succ]
    refine lt_pureF 9 rfl (by kernel_rfl) (by kernel_rfl) (by kernel_rfl) (by kernel_rfl) (by kernel_rfl) (fun _ _ _ h => h) (v := ?_) (yi_run rfl (fun w => ?_)) ?_
    rotate_left
    · first | (go_simp; done) | (go_simp; with_reducible rfl)
    simp only [Act.put, List.setIfInBounds_toArray, List.set_cons_zero, List.set_cons_succ]
    refine lt_end 10 rfl (by kernel_rfl) rfl (by kernel_rfl) ?_
    refine wpo_put1 rfl HY.out 8 rfl 1 rfl (by show 1 < 3; decide) (.slice A7 (k + 1) c7) rfl (by kernel_rfl) rfl ?_
    intro y6 hz _
    replace HY : Hid (OW w (boxO ge [.slice A6 pe.row.length c6, .int .i64 pe.fam, .slice B6 pe.qual.length d6, .int .i64 pe.ts, .int .i64 pe.seq, .int .i64 pe.kind, .slice A4 vn c4] :: bytO 5 (A6, c6, pe.row) :: bytO 5 (B6, d6, pe.qual) :: bytO 5 (D6, q6, pe.val) :: bytO 5 (A5, c5, K) :: bytO 5 (A4, c4, vv) :: bytO 5 (A3, c3, k2) :: boxO gk [.bool true] :: boxO g [i64v R, .slice A7 (k + 1) c7, .slice SA k sc] :: rowO 37 7 (.slice A7 (k + 1) c7) (k + 1) (EC ++ [.slice A6 pe.row.length c6, .int .i64 pe.fam, .slice B6 pe.qual.length d6, .int .i64 pe.ts, .int .i64 pe.seq, .int .i64 pe.kind, .slice A4 vn c4]) :: rowO 24 1 (.slice SA k sc) (k) (KC) :: M) y6) := Lib.hid hz
    clear hz
    simp only [Act.put]
    refine lt_done (by kernel_rfl) ?_
    clear HS2
    have tk9 : True := trivial
    go_wp2_with (first
      | (refine wpList_load_cell rfl 52 (.tmp 93) rfl rfl (HY.out.cell (i := 8) (j := 2) rfl rfl) (fun w => Tryd.isAgg52 w) ?_)
      | (at_builtin; have _t := tk9; go_must (refine wl_append rfl (.tmp 94) (.tmp 96) rfl Tryd.keyS5 (HY.out.al (.cells #[.slice A5 kn c5] 24)) 10 rfl rfl _ (some ⟨y6.heap.size, 0, none⟩) 1 1 [.slice A5 kn c5] rfl (lit_one8 _ _ _ _ rfl) (by simp [Value.oneCell']) (by unfold maxLen; omega) (by omega) ?_); intro A8 c8 y7 hz _; have HQ := Lib.hid hz; clear hz tk9 HY)
      | (refine wl_put1 rfl (.tmp 99) (.tmp 97) rfl HQ.out 8 rfl 2 rfl (by show 2 < 3; decide) (.slice A8 (k + 1) c8) rfl (by kernel_rfl) rfl ?_; intro y8 hz _; have HQ2 : Hid (OW w (boxO ge [.slice A6 pe.row.length c6, .int .i64 pe.fam, .slice B6 pe.qual.length d6, .int .i64 pe.ts, .int .i64 pe.seq, .int .i64 pe.kind, .slice A4 vn c4] :: bytO 5 (A6, c6, pe.row) :: bytO 5 (B6, d6, pe.qual) :: bytO 5 (D6, q6, pe.val) :: bytO 5 (A5, c5, K) :: bytO 5 (A4, c4, vv) :: bytO 5 (A3, c3, k2) :: boxO gk [.bool true] :: boxO g [i64v R, .slice A7 (k + 1) c7, .slice A8 (k + 1) c8] :: rowO 37 7 (.slice A7 (k + 1) c7) (k + 1) (EC ++ [.slice A6 pe.row.length c6, .int .i64 pe.fam, .slice B6 pe.qual.length d6, .int .i64 pe.ts, .int .i64 pe.seq, .int .i64 pe.kind, .slice A4 vn c4]) :: rowO 24 1 (.slice A8 (k + 1) c8) (k + 1) (KC ++ [.slice A5 kn c5]) :: M) y8) := Lib.hid hz; clear hz HQ))
    go_roundw
    case rel =>
      refine ⟨k + 1, p3, zs ++ [(⟨A6, c6, B6, d6, A4, c4, { pe with val := vv }⟩, (A5, c5, K))], .slice A7 (k + 1) c7, .slice A8 (k + 1) c8, A5, kn, c5, K, by omega, by go_num, rfl, rfl, hkn3, HKN, Lib.hid (.inr ⟨_, List.mem_append_right _ (List.mem_singleton.2 rfl), rfl⟩), Lib.hid ⟨fun z hz => ?_, by rw [List.length_append, HL1.out]; rfl⟩, Lib.hid (by rw [entsZ_snoc]; exact HRG.out), Lib.hid ?_⟩
      · rcases List.mem_append.1 hz with h1 | h1
        · exact HZ.out.1 z h1
        · obtain rfl := List.mem_singleton.1 h1
          exact ⟨HPE.out.2.1.symm, (show (keyE pe).length ≤ 1048 from keyE_len HPE.out.1)⟩
      · have h := HQ2.out
        have h := (((((((h.front (i := 4) rfl).front (i := 5) rfl).front (i := 4) rfl).front (i := 4) rfl).front (i := 10) rfl).front (i := 10) rfl).front (i := 10) rfl).front (i := 10) rfl
        have e1 : (zs ++ [((⟨A6, c6, B6, d6, A4, c4, { pe with val := vv }⟩ : ER), (A5, c5, K))]).length = k + 1 := by rw [List.length_append, HL1.out]; rfl
        have e2 : (zs ++ [((⟨A6, c6, B6, d6, A4, c4, { pe with val := vv }⟩ : ER), (A5, c5, K))]).flatMap (·.1.cells) = EC ++ [.slice A6 pe.row.length c6, .int .i64 pe.fam, .slice B6 pe.qual.length d6, .int .i64 pe.ts, .int .i64 pe.seq, .int .i64 pe.kind, .slice A4 vn c4] := by
          rw [List.flatMap_append, HEC.out]; simp only [List.flatMap_cons, List.flatMap_nil, List.append_nil, ER.cells]; rw [HVN.out]
        have e3 : (zs ++ [((⟨A6, c6, B6, d6, A4, c4, { pe with val := vv }⟩ : ER), (A5, c5, K))]).map (valR ·.2) = KC ++ [.slice A5 kn c5] := by
          rw [List.map_append, HKC.out]; simp only [List.map_cons, List.map_nil, valR]; rw [HKN.out]
        unfold blkO
        rw [e1, e2, e3, List.reverse_append, List.flatMap_append, List.map_append, List.cons_append, List.cons_append, List.cons_append, List.append_assoc, ← HM.out]
        exact OW.sub h (.cons_cons _ (.cons_cons _ (.cons_cons _ (.cons_cons _ (.cons_cons _ (.cons_cons _ (.cons_cons _ (.cons_cons _ (.cons _ (.cons _ (.cons _ (List.Sublist.refl _))))))))))))
    case measure => simp [intOf]; omega
end Go.Proofs.YtmigjipfomfacaaDoor
namespace Go.Proofs.YtmigjipfomfacaaDoor
open Go.RowKit
theorem row_le {al : Nat} {k v : List UInt8} (hk : k.length ≤ 1048) (hv : v.length ≤ 4096) (ha : al ≤ 1048) : (rowK al k v).length ≤ 5200 := by
  unfold rowK
  simp only [List.length_append, List.length_drop]
  have := uintB_le10 (n := al) (by omega)
  have := uintB_le10 (n := k.length - al) (by omega)
  have := uintB_le10 (n := v.length) (by omega)
  omega
theorem runE_pls (R : Nat) : ∀ (l : List Ent) (s : BSt), (runE R s l).places.length ≤ s.places.length + l.length
  | [], s => Nat.le_refl _
  | e :: l, s => by
    have := runE_pls R l (stepB R s (keyE e) e.val)
    show (runE R (stepB R s (keyE e) e.val) l).places.length ≤ _
    have h2 : (stepB R s (keyE e) e.val).places.length ≤ s.places.length + 1 := by
      show (placesB R s).length ≤ _
      unfold placesB
      split
      · rw [List.length_append]; exact Nat.le_refl _
      · omega
    rw [List.length_cons]; omega
set_option maxRecDepth 100000 in
set_option maxHeartbeats 4000000 in
theorem rlay_any (R : Nat) (L : List Ent) (A : Option Addr) (n c : Nat) (w : World) (hes : Ens w A n L) (hn : n ≤ 500000) (hR : 1 ≤ R ∧ R ≤ 16) (hok : ∀ l, l ∈ L → checkE l = 0) (hal : ∀ k e, L[k]? = some e → alikeB R (runB R (L.take k)) (keyE e) < (keyE e).length) :
    Calls Tryd.prog 60 #[.int .i64 (R : Int), .slice A n c] w (BytesPost 5 (layB R L) w) := by
  have HLE := Lib.hid hes.len
  have HES : Hid (∀ z, Below w.heap.size w z → Ens z A n L) := Lib.hid fun z hz => hes.later hz
  have HOK := Lib.hid hok
  have HAA := Lib.hid hal
  obtain ⟨hR1, hR2⟩ := hR
  clear hes hok hal
  by_cases h0 : n = 0
  case pos =>
    have HP : Hid (layB R L = []) := Lib.hid (by unfold layB; rw [if_pos (List.eq_nil_of_length_eq_zero (by rw [HLE.out, h0]))])
    subst h0
    go_enter Tryd.func60, Tryd.ntmps60
    go_wp2_with fail
    go_ret
    rw [HP.out]
    exact bytes_post (n := 0) (own_nil _ _ _ _) (Below.refl _ _)
  have hd : ((n : Int) == 0) = false := beq_eq_false_iff_ne.2 (by omega)
  have HX0 : Hid (OW w [bytO 5 (none, 0, []), bytO 5 (none, 0, []), bytO 5 (none, 0, [])] w) := Lib.hid ((((OW.nil w).nilB 5).nilB 5).nilB 5)
  have r0 : ((R : Int) == 0) = false := beq_eq_false_iff_ne.2 (by omega)
  have r1 : ¬ R = 0 := by omega
  go_enter Tryd.func60, Tryd.ntmps60
  go_wp2_with fail
  go_loopw [5, 6, 7, 8, 11] (fun bv pv lv iv _ wr => ∃ (k bl pl kl : Nat) (Ab : Option Addr) (cb : Nat) (Ap : Option Addr) (cp : Nat) (Al : Option Addr) (cl : Nat), k ≤ n ∧ bl ≤ 5200 * k ∧ pl ≤ 4 * k ∧ kl ≤ 1048 ∧ iv = .int .i64 k ∧ bv = .slice Ab bl cb ∧ pv = .slice Ap pl cp ∧ lv = .slice Al kl cl ∧ Hid ((runB R (L.take k)).body.length = bl) ∧ Hid (((runB R (L.take k)).places.flatMap four4).length = pl) ∧ Hid ((runB R (L.take k)).key.length = kl) ∧ Hid (OW w [bytO 5 (Ab, cb, (runB R (L.take k)).body), bytO 5 (Ap, cp, (runB R (L.take k)).places.flatMap four4), bytO 5 (Al, cl, (runB R (L.take k)).key)] wr)) (fun _ _ _ iv _ _ => n - (intOf iv).toNat)
  case atStart => exact ⟨0, 0, 0, 0, none, 0, none, 0, none, 0, Nat.zero_le _, Nat.zero_le _, Nat.zero_le _, Nat.zero_le _, rfl, rfl, rfl, rfl, Lib.hid rfl, Lib.hid rfl, Lib.hid rfl, HX0⟩
  case round =>
    clear HX0
    obtain ⟨k, bl, pl, kl, Ab, cb, Ap, cp, Al, cl, hk, hbl, hpl, hkl, rfl, rfl, rfl, rfl, HB, HP, HK, HX⟩ := hrel
    obtain ⟨s, hs⟩ : ∃ z, z = runB R (L.take k) := ⟨_, rfl⟩
    rw [← hs] at HB HP HK HX
    have HN : Hid (s.n = k) := Lib.hid (by rw [hs, runB_n, List.length_take]; have := HLE.out; omega)
    have HS := Lib.hid hs
    clear hs
    by_cases hlt : k < n
    case pos =>
      have hdk : decide ((k : Int) < (n : Int)) = true := decide_eq_true (by omega)
      obtain ⟨b, o, Ar, ec, B, d, D, q, e, rfl, hbl2, hek, hrg, hen⟩ := (HES.out w (Below.refl _ _)).at_ hlt
      have HRG : Hid (∀ z, Below w.heap.size w z → z.rangeAt b (o + k * 7) [.slice Ar e.row.length ec, .int .i64 e.fam, .slice B e.qual.length d, .int .i64 e.ts, .int .i64 e.seq, .int .i64 e.kind, .slice D e.val.length q]) := Lib.hid fun z hz j v hj => (hz.cell (p := ⟨b, _, none⟩) hbl2).trans (hrg j v hj)
      have HVC : Hid (∀ z, Below w.heap.size w z → z.cell? ⟨b, o + k * 7 + 6, none⟩ = some (.slice D e.val.length q)) := Lib.hid fun z hz => (HRG.out z hz) 6 _ rfl
      have HEN : Hid (∀ z, Below w.heap.size w z → En z Ar e.row.length ec B e.qual.length d D e.val.length q e) := Lib.hid fun z hz => hen.later hz
      have hck := HOK.out e (List.mem_of_getElem? hek)
      have HKE0 : Hid (KeyE e = (keyE e, 0)) := Lib.hid (by unfold KeyE; rw [if_pos hck])
      obtain ⟨kb, hkb⟩ : ∃ z, z = keyE e := ⟨_, rfl⟩
      obtain ⟨kn, hkn⟩ : ∃ z, z = kb.length := ⟨_, rfl⟩
      have hknb : kn ≤ 1048 := by rw [hkn, hkb]; exact keyE_len (ok_of hck)
      have hvb : e.val.length ≤ 4096 := (ok_of hck).val.1
      obtain ⟨al, hal⟩ : ∃ z, z = alikeB R s kb := ⟨_, rfl⟩
      obtain ⟨sh, hsh⟩ : ∃ z, z = shareN s.key kb := ⟨_, rfl⟩
      have halk : al < kn := by have h9 := HAA.out k e hek; rw [hal, hkn, hkb, HS.out]; exact h9
      have HKB := Lib.hid hkb.symm
      have HKE : Hid (KeyE e = (kb, 0)) := Lib.hid (by rw [hkb]; exact HKE0.out)
      have HKN := Lib.hid hkn.symm
      have HAL := Lib.hid hal
      have HSH := Lib.hid hsh.symm
      have HTK : Hid (runB R (L.take (k + 1)) = stepB R s kb e.val) := Lib.hid (by rw [runB_take R L hek, ← HS.out, hkb])
      have i1 : (0 : Int) ≤ (k : Int) := by omega
      have i2 : (k : Int) < (n : Int) := by omega
      clear hek hrg hen hck hkb hkn hal hsh
      go_upto_if 35 with (first
        | (refine wpList_load_at rfl 37 (.tmp 24) rfl rfl (HRG.out _ HX.out.up) ent_row5 ?_)
        | (go_at_call 56; go_must (refine (rKey_any e Ar _ ec B _ d D _ q _ (HEN.out _ HX.out.up)).mono ?_); rw [HKE.out]; rintro r y1 hp; obtain ⟨Ak, ck, rfl, _, ho, hb⟩ := hp.at_ HKN.out rfl; have HY := Lib.hid (HX.out.addF9 (OW.byt1 hb ho)); clear hp ho hb HX)
        | (go_at_call 57; go_must (refine (rshared_any s.key kb Al Ak kl cl kn ck _ (by omega) (HY.out.sl (i := 3) rfl HK.out).rb (HY.out.sl (i := 0) rfl HKN.out).rb).mono ?_); rw [HSH.out]; rintro r y2 ⟨rfl, hb⟩; have HZ := Lib.hid (HY.out.later hb); clear hb HY))
      go_cut [6, 11] (fun pv nv wx => ∃ (pl2 : Nat) (Ap2 : Option Addr) (cp2 : Nat), pl2 ≤ 4 * (k + 1) ∧ pv = .slice Ap2 pl2 cp2 ∧ nv = .int .i64 (al : Int) ∧ Hid (((placesB R s).flatMap four4).length = pl2) ∧ Hid (OW w [bytO 5 (Ak, ck, kb), bytO 5 (Ab, cb, s.body), bytO 5 (Ap2, cp2, (placesB R s).flatMap four4), bytO 5 (Al, cl, s.key)] wx))
      case first =>
        by_cases hf : k % R = 0
        · have e1 : ((k : Int).tmod (R : Int)) = 0 := by rw [← Int.ofNat_tmod, hf]; rfl
          have e2 : ((k : Int) % (R : Int)) = 0 := by rw [← Int.natCast_emod, hf]; rfl
          have HA0 : Hid (al = 0) := Lib.hid (by rw [HAL.out]; unfold alikeB; rw [HN.out, if_pos hf])
          have HP2 : Hid ((placesB R s).flatMap four4 = s.places.flatMap four4 ++ four4 bl) := Lib.hid (by unfold placesB; rw [HN.out, if_pos hf, HB.out, List.flatMap_append]; simp)
          clear hf
          go_wp2_with (first
            | (go_at_call 88; go_must (refine (rfour_any bl _ (by omega)).mono ?_); rintro r y3 hp; obtain ⟨A4, c4, rfl, _, ho, hb⟩ := hp.at_ (n := 4) rfl; have HF := Lib.hid (HZ.out.addF9 (OW.byt1 hb ho)); clear hp ho hb HZ)
            | (at_builtin; go_must (refine wl_appB rfl (.tmp 36) (.tmp 39) rfl Tryd.u8s' HF.out 3 rfl HP.out rfl _ _ 4 _ (four4 bl) rfl (HF.out.sl (i := 0) rfl rfl).rb (by omega) ?_); intro A5 c5 y4 hz; have HG : Hid (OW w [bytO 5 (A4, c4, four4 bl), bytO 5 (Ak, ck, kb), bytO 5 (Ab, cb, s.body), bytO 5 (A5, c5, s.places.flatMap four4 ++ four4 bl), bytO 5 (Al, cl, s.key)] y4) := Lib.hid hz; clear hz HF))
          go_meet
          refine ⟨pl + 4, A5, c5, by omega, rfl, by rw [HA0.out]; rfl, Lib.hid (by rw [HP2.out, List.length_append, HP.out]; rfl), Lib.hid ?_⟩
          rw [HP2.out]
          exact HG.out.sub ((List.Sublist.refl _).cons _)
        · have e1 : ¬ ((k : Int).tmod (R : Int)) = 0 := by rw [← Int.ofNat_tmod]; omega
          have e3 : (((k : Int).tmod (R : Int)) == 0) = false := beq_eq_false_iff_ne.2 e1
          have e2 : ¬ ((k : Int) % (R : Int)) = 0 := by rw [← Int.natCast_emod]; omega
          have e4 : (((k : Int) % (R : Int)) == 0) = false := beq_eq_false_iff_ne.2 e2
          have HA0 : Hid (al = sh) := Lib.hid (by rw [HAL.out, ← HSH.out]; unfold alikeB; rw [HN.out, if_neg hf])
          have HP2 : Hid (placesB R s = s.places) := Lib.hid (by unfold placesB; rw [HN.out, if_neg hf])
          clear hf
          go_wp2_with fail
          go_meet
          refine ⟨pl, Ap, cp, by omega, rfl, by rw [HA0.out], Lib.hid (by rw [HP2.out]; exact HP.out), Lib.hid ?_⟩
          rw [HP2.out]
          exact HZ.out
      clear HZ
      obtain ⟨pl2, Ap2, cp2, hpl2, rfl, rfl, HP2, HX⟩ := hcut
      obtain ⟨w4, rfl⟩ : ∃ z : World, z = wc := ⟨_, rfl⟩
      obtain ⟨U, hU⟩ : ∃ z, z = uintB al := ⟨_, rfl⟩
      obtain ⟨un, hun⟩ : ∃ z, z = U.length := ⟨_, rfl⟩
      have hun2 : un ≤ 10 := by rw [hun, hU]; exact uintB_le10 (by omega)
      obtain ⟨kd, hkd⟩ : ∃ z, z = kb.drop al := ⟨_, rfl⟩
      have hkdl : kd.length = kn - al := by rw [hkd, List.length_drop, HKN.out]
      obtain ⟨V, hV⟩ : ∃ z, z = uintB kd.length ++ kd := ⟨_, rfl⟩
      obtain ⟨vn, hvn⟩ : ∃ z, z = V.length := ⟨_, rfl⟩
      have hvn2 : vn ≤ 1058 := by rw [hvn, hV, List.length_append]; have := uintB_le10 (n := kd.length) (by omega); omega
      obtain ⟨W, hW⟩ : ∃ z, z = uintB e.val.length ++ e.val := ⟨_, rfl⟩
      obtain ⟨wn, hwn⟩ : ∃ z, z = W.length := ⟨_, rfl⟩
      have hwn2 : wn ≤ 4106 := by rw [hwn, hW, List.length_append]; have := uintB_le10 (n := e.val.length) (by omega); omega
      have HU := Lib.hid hU.symm
      have HUN := Lib.hid hun.symm
      have HKD := Lib.hid hkd
      have HV := Lib.hid hV.symm
      have HVN := Lib.hid hvn.symm
      have HW := Lib.hid hW.symm
      have HWN := Lib.hid hwn.symm
      have HVB : Hid (e.val.length ≤ 140737488355318) := Lib.hid (by omega)
      obtain ⟨vl, hvl⟩ : ∃ z, z = e.val.length := ⟨_, rfl⟩
      have HEV : Hid (∀ z, Below w.heap.size w z → RB z z.heap.size D vl e.val) := Lib.hid fun z hz => by rw [hvl]; exact (HEN.out z hz).val.rb
      have HVC2 : Hid (∀ z, Below w.heap.size w z → z.cell? ⟨b, o + k * 7 + 6, none⟩ = some (.slice D vl q)) := Lib.hid fun z hz => by rw [hvl]; exact HVC.out z hz
      have HSK : Hid (Sl w4 Ak kn ck kb) := Lib.hid (HX.out.sl (i := 0) rfl HKN.out)
      have hkc := HSK.out.cap
      have hkp : 0 < kn := by have := keyE_pos e; rw [HKB.out, HKN.out] at this; exact this
      obtain ⟨gk, cpk, hv, _⟩ := own_form (HX.out.row (i := 0) rfl) (by show 0 < kb.length; have := HKN.out; omega)
      injection hv with hv _ hcp
      subst hv
      subst hcp
      have HKDL := Lib.hid hkdl
      have HSD : Hid (∀ z, Sl z (some ⟨gk, 0, none⟩) kn ck kb → Sl z (some ⟨gk, al, none⟩) (kn - al) (ck - al) kd) := Lib.hid fun z h => by
        have h1 := h.drop (k := al) (by omega) (by omega)
        rw [← HKD.out, Option.map_some, show (⟨gk, 0, none⟩ : Addr).add al = ⟨gk, al, none⟩ from by simp [Addr.add]; omega] at h1
        exact h1
      have hvlb : vl ≤ 4096 := by omega
      have j1 : (0 : Int) ≤ (al : Int) := by omega
      have j2 : (al : Int) ≤ (kn : Int) := by omega
      have j3 : (kn : Int) ≤ (ck : Int) := by omega
      have HSZ : Hid (un + vn + wn ≤ 5200) := Lib.hid (by omega)
      have hblb : bl ≤ 2600000000 := by omega
      clear hU hun hkd hkdl hV hvn hW hwn hvl HVC hvb
      have tk1 : True := trivial
      have tk2 : True := trivial
      have tk3 : True := trivial
      have tk4 : True := trivial
      go_wp2_with (first
        | (go_at_call 58; go_must (refine (rUint_any al _ (by omega)).mono ?_); rw [HU.out]; rintro r z1 hp; obtain ⟨A1, c1, rfl, _, ho, hb⟩ := hp.at_ (n := un) HUN.out; have HX1 := Lib.hid (HX.out.addF9 (OW.byt1 hb ho)); clear hp ho hb HX)
        | (at_builtin; have _t := tk1; go_must (refine wl_appB rfl (.tmp 41) (.tmp 44) rfl Tryd.u8s' HX1.out 2 rfl HB.out rfl _ _ un _ U rfl (HX1.out.sl (i := 0) rfl HUN.out).rb (by omega) ?_); intro A2 c2 z2 hz; have HX2 := Lib.hid (hz.erase 0); clear hz HX1 tk1)
        | (go_at_call 59; have _t := tk2; go_must (refine (rBytes_any kd _ (kn - al) _ _ (by omega) (HSD.out _ (HX2.out.sl (i := 0) rfl HKN.out)).rb).mono ?_); rw [HV.out]; rintro r z3 hp; obtain ⟨A3, c3, rfl, _, ho, hb⟩ := hp.at_ (n := vn) HVN.out; have HX3 := Lib.hid (HX2.out.addF9 (OW.byt1 hb ho)); clear hp ho hb HX2 tk2)
        | (at_builtin; have _t := tk3; go_must (refine wl_appB rfl (.tmp 46) (.tmp 50) rfl Tryd.u8s' HX3.out 2 rfl (show (s.body ++ U).length = bl + un from by rw [List.length_append, HB.out, HUN.out]) rfl _ _ vn _ V rfl (HX3.out.sl (i := 0) rfl HVN.out).rb (by omega) ?_); intro A4 c4 z4 hz; have HX4 := Lib.hid (hz.erase 0); clear hz HX3 tk3)
        | (refine wpList_load_cell rfl 24 (.tmp 56) rfl rfl (HVC2.out _ HX4.out.up) (fun w => Tryd.isAgg24 w) ?_)
        | (go_at_call 59; go_must (refine (rBytes_any e.val _ vl _ _ (by omega) (HEV.out _ HX4.out.up)).mono ?_); rw [HW.out]; rintro r z5 hp; obtain ⟨A5, c5, rfl, _, ho, hb⟩ := hp.at_ (n := wn) HWN.out; have HX5 := Lib.hid (HX4.out.addF9 (OW.byt1 hb ho)); clear hp ho hb HX4)
        | (at_builtin; go_must (refine wl_appB rfl (.tmp 52) (.tmp 58) rfl Tryd.u8s' HX5.out 2 rfl (show (s.body ++ U ++ V).length = bl + un + vn from by rw [List.length_append, List.length_append, HB.out, HUN.out, HVN.out]) rfl _ _ wn _ W rfl (HX5.out.sl (i := 0) rfl HWN.out).rb (by omega) ?_); intro A6 c6 z6 hz; have HX6 : Hid (OW w [bytO 5 (some ⟨gk, 0, none⟩, ck, kb), bytO 5 (A6, c6, s.body ++ U ++ V ++ W), bytO 5 (Ap2, cp2, (placesB R s).flatMap four4), bytO 5 (Al, cl, s.key)] z6) := Lib.hid (hz.erase 0); clear hz HX5))
      go_roundw
      case rel =>
        have hb5 := HSZ.out
        have e1 : s.body ++ U ++ V ++ W = s.body ++ rowK (alikeB R s kb) kb e.val := by
          rw [← HU.out, ← HV.out, ← HW.out, HKD.out, ← HAL.out]
          unfold rowK
          simp [List.append_assoc]
        refine ⟨k + 1, bl + un + vn + wn, pl2, kn, A6, c6, Ap2, cp2, some ⟨gk, 0, none⟩, ck, by omega, by omega, by omega, hknb, by go_num, rfl, rfl, rfl, Lib.hid ?_, Lib.hid ?_, Lib.hid ?_, Lib.hid ?_⟩
        · rw [HTK.out]; show (s.body ++ _).length = _
          rw [← e1]; simp only [List.length_append]; rw [HB.out, HUN.out, HVN.out, HWN.out]
        · rw [HTK.out]; exact HP2.out
        · rw [HTK.out]; exact HKN.out
        · rw [HTK.out]
          have h := HX6.out
          rw [e1] at h
          exact ((h.front (i := 2) rfl).front (i := 2) rfl).sub (.cons_cons _ (.cons_cons _ (.cons_cons _ (.cons _ (List.Sublist.refl _)))))
      case measure => simp [intOf]; omega
    have hdk : decide ((k : Int) < (n : Int)) = false := decide_eq_false (by omega)
    have hkn : k = n := by omega
    have HLT : Hid (L.take k = L) := Lib.hid (take_all (by have := HLE.out; omega))
    have HLB : Hid (layB R L = headB5 R s ++ lowB (sumL (headB5 R s))) := Lib.hid (by
      unfold layB
      rw [if_neg (by intro h; have := HLE.out; rw [h] at this; exact h0 (by simpa using this.symm)), HS.out, HLT.out]; rfl)
    obtain ⟨hd2, hhd⟩ : ∃ z, z = headB5 R s := ⟨_, rfl⟩
    have HHD := Lib.hid hhd.symm
    have HE8 : Hid (s.body ++ s.places.flatMap four4 ++ four4 k ++ [UInt8.ofNat R] = hd2) := Lib.hid (by rw [hhd, ← HN.out]; rfl)
    have HL7 : Hid ((s.body ++ s.places.flatMap four4 ++ four4 k).length = bl + pl + 4) := Lib.hid (by simp only [List.length_append]; rw [HB.out, HP.out]; rfl)
    have HLD : Hid (hd2.length = bl + pl + 4 + 1) := Lib.hid (by rw [← HE8.out, List.length_append, HL7.out]; rfl)
    have HU8 : Hid ([Value.int .u8 (R : Int)] = u8s [UInt8.ofNat R]) := Lib.hid (by
      show _ = [u8v _]
      unfold u8v
      rw [UInt8.toNat_ofNat', Nat.mod_eq_of_lt (by omega)])
    subst hkn
    clear hhd hlt
    have tk1 : True := trivial
    have tk2 : True := trivial
    have tk3 : True := trivial
    have hblb : bl ≤ 2600000000 := by omega
    have hplb : pl ≤ 2000000 := by omega
    go_wp2_with (first
      | (at_builtin; have _t := tk1; go_must (refine wl_appB rfl (.tmp 61) (.tmp 62) rfl Tryd.u8s' HX.out 0 rfl HB.out rfl _ _ pl _ (s.places.flatMap four4) rfl (HX.out.sl (i := 1) rfl HP.out).rb (by omega) ?_); intro A1 c1 z1 hz; have HX1 := Lib.hid hz; clear hz HX tk1)
      | (go_at_call 88; go_must (refine (rfour_any k _ (by omega)).mono ?_); rintro r y3 hp; obtain ⟨A4, c4, rfl, _, ho, hb⟩ := hp.at_ (n := 4) rfl; have HX2 := Lib.hid (HX1.out.addF9 (OW.byt1 hb ho)); clear hp ho hb HX1)
      | (at_builtin; have _t := tk2; go_must (refine wl_appB rfl (.tmp 64) (.tmp 67) rfl Tryd.u8s' HX2.out 1 rfl (show (s.body ++ s.places.flatMap four4).length = bl + pl from by rw [List.length_append, HB.out, HP.out]) rfl _ _ 4 _ (four4 k) rfl (HX2.out.sl (i := 0) rfl rfl).rb (by omega) ?_); intro A5 c5 z5 hz; have HX3 := Lib.hid (hz.erase 0); clear hz HX2 tk2)
      | (at_builtin; have _t := tk3; go_must (refine wl_appB rfl (.tmp 69) (.tmp 72) rfl Tryd.u8s' (HX3.out.al (.cells #[.int .u8 (R : Int)] 5)) 0 rfl HL7.out rfl _ (some ⟨z5.heap.size, 0, none⟩) 1 1 [UInt8.ofNat R] rfl (by exact reads_lit z5 _ [UInt8.ofNat R] _ _ HU8.out) (by omega) ?_); intro A6 c6 z6 hz; rw [HE8.out] at hz; have HX4 := Lib.hid (hz.left (os := [_]) (ps := [_, _])); clear hz HX3 tk3)
      | (go_at_call 89; go_must (refine (sealed_any hd2 _ (bl + pl + 4 + 1) _ _ (HX4.out.sl (i := 0) rfl HLD.out)).mono ?_); rintro r y7 hp; obtain ⟨A7, c7, rfl, _, ho, hb⟩ := hp.at_ (n := 4) rfl; have HX5 := Lib.hid (HX4.out.addF9 (OW.byt1 hb ho)); clear hp ho hb HX4)
      | (at_builtin; go_must (refine wl_appB rfl (.tmp 74) (.tmp 76) rfl Tryd.u8s' HX5.out 1 rfl HLD.out rfl _ _ 4 _ (lowB (sumL hd2)) rfl (HX5.out.sl (i := 0) rfl rfl).rb (by omega) ?_); intro A8 c8 z8 hz; have HX6 : Hid (OW w [bytO 5 (A8, c8, hd2 ++ lowB (sumL hd2))] z8) := Lib.hid (hz.erase 0); clear hz HX5))
    go_ret
    rw [HLB.out, HHD.out]
    exact HX6.out.bytes1 rfl (n := bl + pl + 4 + 1 + 4) (by rw [List.length_append, HLD.out]; rfl) rfl
end Go.Proofs.YtmigjipfomfacaaDoor
namespace Go.Proofs.YtmigjipfomfacaaDoor
open Go.RowKit
def beginI (R : Int) : Int := if R < 1 ∨ 16 < R then 1 else 0
theorem rbegin_any (R : Int) (w : World) : Calls Tryd.prog 31 #[.int .i64 R] w fun e w' => e = .returned (.int .i64 (beginI R)) ∧ w = w' := by
  by_cases h1 : R < 1
  · have hd : decide (R < 1) = true := decide_eq_true h1
    have HP : Hid (beginI R = 1) := Lib.hid (if_pos (.inl h1))
    go_enter Tryd.func31, Tryd.ntmps31
    go_wp2_with fail
    go_ret
    exact ⟨by rw [HP.out]; rfl, rfl⟩
  have hd : decide (R < 1) = false := decide_eq_false h1
  by_cases h2 : 16 < R
  · have hd2 : decide (R > 16) = true := decide_eq_true h2
    have HP : Hid (beginI R = 1) := Lib.hid (if_pos (.inr h2))
    go_enter Tryd.func31, Tryd.ntmps31
    go_wp2_with fail
    go_ret
    exact ⟨by rw [HP.out]; rfl, rfl⟩
  have hd2 : decide (R > 16) = false := decide_eq_false h2
  have HP : Hid (beginI R = 0) := Lib.hid (if_neg (by omega))
  go_enter Tryd.func31, Tryd.ntmps31
  go_wp2_with fail
  go_ret
  exact ⟨by rw [HP.out]; rfl, rfl⟩
theorem rCheckE_any (e : Ent) (A : Option Addr) (n c : Nat) (B : Option Addr) (m d : Nat) (D : Option Addr) (v q : Nat) (w : World) (h : En w A n c B m d D v q e) : Calls Tryd.prog 42 #[entV A n c B m d D v q e] w fun r y => r = .returned (.int .i64 (checkE e)) ∧ Below w.heap.size w y := by
  have h1 := h.row.len
  have h2 := h.qual.len
  have h3 := h.val.len
  unfold checkE
  rw [h1, h2, h3]
  exact rCheck_any A n c e.fam B m d e.ts e.seq e.kind D v q w
theorem buildK_at {R : Nat} {es : List Ent} {k : Nat} {e : Ent} (hk : es[k]? = some e) (h0 : (buildK R [] (es.take k)).1 = 0) : (addC R (es.take k) e = 0 → (buildK R [] (es.take (k + 1))).1 = 0) ∧ (∀ er, addC R (es.take k) e = er → er ≠ 0 → buildE5 (R : Int) es = ([], if (R : Int) < 1 ∨ 16 < (R : Int) then 1 else er)) :=
  ⟨fun h => ((addC_step hk h0).1 h).2, fun er h hne => by
    have h1 := (addC_step hk h0).2 (by rw [h]; exact hne)
    unfold buildE5
    split
    · rfl
    · rw [Int.toNat_natCast, if_neg (by rw [h1, h]; exact hne), h1, h]⟩
theorem build_alike {R : Nat} {L : List Ent} (h : (buildK R [] L).1 = 0) : ∀ k e, L[k]? = some e → alikeB R (runB R (L.take k)) (keyE e) < (keyE e).length := fun k e hk => by
  have hc := buildK_checked R L [] (fun l h => by cases h) h
  rw [List.nil_append] at hc
  have e1 : L = L.take k ++ L.drop k := (List.take_append_drop k L).symm
  have h0 : (buildK R [] (L.take k)).1 = 0 := by
    have h2 := buildK_app R (L.take k) [] (L.drop k)
    rw [← e1] at h2
    by_cases h3 : (buildK R [] (L.take k)).1 = 0
    · exact h3
    · rw [if_neg h3] at h2; rw [h2] at h; exact absurd h h3
  have hs := addC_step hk h0
  have ha : addC R (L.take k) e = 0 := by
    by_cases h3 : addC R (L.take k) e = 0
    · exact h3
    · have := hs.2 h3; rw [h] at this; exact absurd this.symm h3
  refine alike_lt (fun l hl => hc l (List.mem_of_mem_take hl)) (hc e (List.mem_of_getElem? hk)) ?_
  intro h4
  unfold addC at ha
  rw [if_neg (by rw [hc e (List.mem_of_getElem? hk)]; decide), if_pos h4] at ha
  cases ha
theorem size_step (R : Nat) (s : BSt) (k v : List UInt8) : sizeS (stepB R s k v) = sizeS s + (if s.n % R = 0 then 4 else 0) + (rowK (alikeB R s k) k v).length := by
  have h1 : (stepB R s k v).body = s.body ++ rowK (alikeB R s k) k v := rfl
  have h2 : (stepB R s k v).places = placesB R s := rfl
  unfold sizeS
  rw [h1, h2, List.length_append]
  unfold placesB
  split
  · rw [List.length_append]; show _ + _ + 4 * (_ + 1) + 9 = _; omega
  · omega
set_option maxRecDepth 100000 in
set_option maxHeartbeats 4000000 in
theorem rbuild_any (R : Int) (es : List Ent) (A : Option Addr) (n c : Nat) (w : World) (hes : Ens w A n es) (hn : n ≤ 500000) :
    Calls Tryd.prog 21 #[.int .i64 R, .slice A n c] w (BytesPost2 5 (buildE5 R es).1 (buildE5 R es).2 w) := by
  have HLE := Lib.hid hes.len
  have HES : Hid (∀ z, Below w.heap.size w z → Ens z A n es) := Lib.hid fun z hz => hes.later hz
  clear hes
  by_cases hR : R < 1 ∨ 16 < R
  case pos =>
    have HP : Hid (buildE5 R es = ([], 1)) := Lib.hid (by unfold buildE5; rw [if_pos hR])
    have HB : Hid (beginI R = 1) := Lib.hid (if_pos hR)
    clear hR
    go_enter Tryd.func21, Tryd.ntmps21
    go_wp2_with (go_at_call 31; go_must (refine (rbegin_any R _).mono ?_); rw [HB.out]; rintro r z1 ⟨rfl, rfl⟩)
    go_ret2
    rw [HP.out]
    exact bytes_post2 (n := 0) (own_nil _ _ _ _) (Below.refl _ _)
  obtain ⟨r, rfl⟩ : ∃ r : Nat, R = (r : Int) := ⟨R.toNat, by omega⟩
  have hr1 : 1 ≤ r := by omega
  have hr2 : r ≤ 16 := by omega
  have HB : Hid (beginI (r : Int) = 0) := Lib.hid (if_neg hR)
  have HRR := Lib.hid hR
  have HX0 : Hid (OW w [bytO 5 (none, 0, [])] w) := Lib.hid ((OW.nil w).nilB 5)
  have r0 : ((r : Int) == 0) = false := beq_eq_false_iff_ne.2 (by omega)
  have r1 : ¬ r = 0 := by omega
  clear hR
  go_enter Tryd.func21, Tryd.ntmps21
  go_wp2_with (go_at_call 31; go_must (refine (rbegin_any (r : Int) _).mono ?_); rw [HB.out]; rintro e z1 ⟨rfl, rfl⟩)
  go_loopw [6, 7, 8, 9] (fun _ sv lv iv wr => ∃ (k sz kl : Nat) (Al : Option Addr) (cl : Nat), k ≤ n ∧ sz ≤ 131072 ∧ kl ≤ 1048 ∧ iv = .int .i64 k ∧ sv = .int .i64 sz ∧ lv = .slice Al kl cl ∧ Hid ((buildK r [] (es.take k)).1 = 0) ∧ Hid (sz = sizeS (runB r (es.take k))) ∧ Hid ((runB r (es.take k)).key.length = kl) ∧ Hid (OW w [bytO 5 (Al, cl, (runB r (es.take k)).key)] wr)) (fun _ _ _ iv _ => n - (intOf iv).toNat)
  case atStart => exact ⟨0, 9, 0, none, 0, Nat.zero_le _, by omega, Nat.zero_le _, rfl, rfl, rfl, Lib.hid rfl, Lib.hid rfl, Lib.hid rfl, HX0⟩
  case round =>
    clear HX0
    obtain ⟨k, sz, kl, Al, cl, hk, hsz, hkl, rfl, rfl, rfl, HBK, HSZ, HK, HX⟩ := hrel
    obtain ⟨s, hs⟩ : ∃ z, z = runB r (es.take k) := ⟨_, rfl⟩
    rw [← hs] at HSZ HK HX
    have HN : Hid (s.n = k) := Lib.hid (by rw [hs, runB_n, List.length_take]; have := HLE.out; omega)
    have HS := Lib.hid hs
    clear hs
    by_cases hlt : k < n
    case neg =>
      have hdk : decide ((k : Int) < (n : Int)) = false := decide_eq_false (by omega)
      have hkn : k = n := by omega
      have HT : Hid (es.take k = es) := Lib.hid (take_all (by have := HLE.out; omega))
      have HPF : Hid (buildE5 (r : Int) es = finE r es) := Lib.hid (by
        have h := HBK.out
        rw [HT.out] at h
        unfold buildE5
        rw [if_neg HRR.out, Int.toNat_natCast, if_pos h])
      subst hkn
      by_cases h0 : k = 0
      · have HPE : Hid (finE r es = ([], 54)) := Lib.hid (by unfold finE; rw [if_pos (List.eq_nil_of_length_eq_zero (by rw [HLE.out, h0]))])
        have hd0 : ((k : Int) == 0) = true := by rw [h0]; rfl
        clear h0
        go_wp2_with fail
        go_ret2
        rw [HPF.out, HPE.out]
        exact bytes_post2 (n := 0) (own_nil _ _ _ _) HX.out.up
      · have HPE : Hid (finE r es = (layB r es, 0)) := Lib.hid (by unfold finE; rw [if_neg]; intro h; have := HLE.out; rw [h] at this; exact h0 (by simpa using this.symm))
        have hd0 : ((k : Int) == 0) = false := beq_eq_false_iff_ne.2 (by omega)
        have HCC : Hid (∀ l, l ∈ es → checkE l = 0) := Lib.hid (by
          have h := HBK.out
          rw [HT.out] at h
          have := buildK_checked r es [] (fun l h => by cases h) h
          simpa using this)
        have HAA := Lib.hid (build_alike (R := r) (L := es) (by have h := HBK.out; rwa [HT.out] at h))
        clear h0
        go_wp2_with (go_at_call 60; go_must (refine (rlay_any r es A k c _ (HES.out _ HX.out.up) hn ⟨hr1, hr2⟩ HCC.out HAA.out).mono ?_); rintro e z2 hp; obtain ⟨A2, c2, rfl, ho, hb⟩ := hp; have HO2 := Lib.hid ho; have HB2 := Lib.hid (HX.out.up.trans (hb.mono HX.out.up.size)); have HX2 := Lib.hid HX.out.up.size; clear ho hb)
        go_ret2
        rw [HPF.out, HPE.out]
        exact ⟨A2, c2, rfl, own_rebase HO2.out HX2.out, HB2.out⟩
    have hdk : decide ((k : Int) < (n : Int)) = true := decide_eq_true (by omega)
    obtain ⟨b, o, Ar, ec, B, d, D, q, e, rfl, hbl2, hek, hrg, hen⟩ := (HES.out w (Below.refl _ _)).at_ hlt
    have HRG : Hid (∀ z, Below w.heap.size w z → z.rangeAt b (o + k * 7) [.slice Ar e.row.length ec, .int .i64 e.fam, .slice B e.qual.length d, .int .i64 e.ts, .int .i64 e.seq, .int .i64 e.kind, .slice D e.val.length q]) := Lib.hid fun z hz j v hj => (hz.cell (p := ⟨b, _, none⟩) hbl2).trans (hrg j v hj)
    have HEN : Hid (∀ z, Below w.heap.size w z → En z Ar e.row.length ec B e.qual.length d D e.val.length q e) := Lib.hid fun z hz => hen.later hz
    have HAT := Lib.hid (buildK_at (R := r) hek HBK.out)
    have HEK := Lib.hid hek
    have i1 : (0 : Int) ≤ (k : Int) := by omega
    have i2 : (k : Int) < (n : Int) := by omega
    obtain ⟨ce, hce⟩ : ∃ z, z = checkE e := ⟨_, rfl⟩
    have HCE := Lib.hid hce.symm
    clear hek hrg hen hce
    by_cases hc : ce = 0
    case neg =>
      have hd1 : (ce != 0) = true := bne_iff_ne.2 hc
      have HPF : Hid (buildE5 (r : Int) es = ([], ce)) := Lib.hid (by
        have h := HAT.out.2 ce (by unfold addC; rw [if_pos (by rw [HCE.out]; exact hc)]; exact HCE.out) hc
        rw [if_neg HRR.out] at h; exact h)
      clear hc
      go_wp2_with (first
        | (refine wpList_load_at rfl 37 (.tmp 26) rfl rfl (HRG.out _ HX.out.up) ent_row5 ?_)
        | (go_at_call 42; go_must (refine (rCheckE_any e Ar _ ec B _ d D _ q _ (HEN.out _ HX.out.up)).mono ?_); rw [HCE.out]; rintro r y1 ⟨rfl, hb⟩; have HB1 := Lib.hid (HX.out.up.trans (hb.mono HX.out.up.size)); clear hb))
      go_ret2
      rw [HPF.out]
      exact bytes_post2 (n := 0) (own_nil _ _ _ _) HB1.out
    have hd1 : (ce != 0) = false := by rw [hc]; rfl
    have HC0 : Hid (checkE e = 0) := Lib.hid (by rw [HCE.out]; exact hc)
    clear hc
    obtain ⟨bo, hbo⟩ : ∃ z : Bool, z = !lastOk (es.take k) e := ⟨_, rfl⟩
    have HBO := Lib.hid hbo
    clear hbo
    go_upto_region 12 with (first
      | (refine wpList_load_at rfl 37 (.tmp 26) rfl rfl (HRG.out _ HX.out.up) ent_row5 ?_)
      | (go_at_call 42; go_must (refine (rCheckE_any e Ar _ ec B _ d D _ q _ (HEN.out _ HX.out.up)).mono ?_); rw [HCE.out]; rintro r y1 ⟨rfl, hb⟩; have HX1 := Lib.hid (HX.out.later hb); clear hb HX))
    go_cut [46] (fun bv wx => bv = .bool bo ∧ Hid (OW w [bytO 5 (Al, cl, s.key)] wx))
    case first =>
      by_cases h0 : k = 0
      · have hb0 : bo = false := by rw [HBO.out, h0]; rfl
        have hd2 : decide ((k : Int) > 0) = false := decide_eq_false (by omega)
        have hd3 : ¬ (0 : Int) < (k : Int) := by omega
        have hd5 : ¬ 0 < k := by omega
        clear h0
        refine lt_start [] (by kernel_rfl) ?_
        intro xd hd
        refine ⟨fun z => OW w [bytO 5 (Al, cl, s.key)] z, ?_⟩
        have HS := Lib.hid (HX1.out.later hd)
        refine lt_pure 0 rfl (by kernel_rfl) (by kernel_rfl) (by kernel_rfl) (by kernel_rfl) (fun _ _ _ h => h) (v := ?_) (yi_run rfl (fun w => ?_)) (fun _ => HS.out) ?_
        rotate_left
        · first | (go_simp; done) | (go_simp; with_reducible rfl)
        simp only [Act.put, List.setIfInBounds_toArray, List.set_cons_zero, List.set_cons_succ]
        refine lt_pure 1 rfl (by kernel_rfl) (by kernel_rfl) (by kernel_rfl) (by kernel_rfl) (fun _ _ _ h => h) (v := ?_) (yi_run rfl (fun w => ?_)) (fun _ => HS.out) ?_
        rotate_left
        · first | (go_simp; done) | (go_simp; with_reducible rfl)
        simp only [Act.put, List.setIfInBounds_toArray, List.set_cons_zero, List.set_cons_succ]
        refine lt_pure 2 rfl (by kernel_rfl) (by kernel_rfl) (by kernel_rfl) (by kernel_rfl) (fun _ _ _ h => h) (v := ?_) (yi_run rfl (fun w => ?_)) (fun _ => HS.out) ?_
        rotate_left
        · first | (go_simp; done) | (go_simp; with_reducible rfl)
        simp only [Act.put, List.setIfInBounds_toArray, List.set_cons_zero, List.set_cons_succ]
        refine lt_skip 3 rfl (by kernel_rfl) (by kernel_rfl) (by kernel_rfl) (by kernel_rfl) (fun _ _ _ h => h) rfl (fun _ => HS.out) ?_
        simp only [Act.put, List.setIfInBounds_toArray, List.set_cons_zero, List.set_cons_succ]
        refine lt_skip 4 rfl (by kernel_rfl) (by kernel_rfl) (by kernel_rfl) (by kernel_rfl) (fun _ _ _ h => h) rfl (fun _ => HS.out) ?_
        simp only [Act.put, List.setIfInBounds_toArray, List.set_cons_zero, List.set_cons_succ]
        refine lt_skip 5 rfl (by kernel_rfl) (by kernel_rfl) (by kernel_rfl) (by kernel_rfl) (fun _ _ _ h => h) rfl (fun _ => HS.out) ?_
        simp only [Act.put, List.setIfInBounds_toArray, List.set_cons_zero, List.set_cons_succ]
        refine lt_skip 6 rfl (by kernel_rfl) (by kernel_rfl) (by kernel_rfl) (by kernel_rfl) (fun _ _ _ h => h) rfl (fun _ => HS.out) ?_
        simp only [Act.put, List.setIfInBounds_toArray, List.set_cons_zero, List.set_cons_succ]
        refine lt_skip 7 rfl (by kernel_rfl) (by kernel_rfl) (by kernel_rfl) (by kernel_rfl) (fun _ _ _ h => h) rfl (fun _ => HS.out) ?_
        simp only [Act.put, List.setIfInBounds_toArray, List.set_cons_zero, List.set_cons_succ]
        refine lt_skip 8 rfl (by kernel_rfl) (by kernel_rfl) (by kernel_rfl) (by kernel_rfl) (fun _ _ _ h => h) rfl (fun _ => HS.out) ?_
        simp only [Act.put, List.setIfInBounds_toArray, List.set_cons_zero, List.set_cons_succ]
        refine lt_skip 9 rfl (by kernel_rfl) (by kernel_rfl) (by kernel_rfl) (by kernel_rfl) (fun _ _ _ h => h) rfl (fun _ => HS.out) ?_
        simp only [Act.put, List.setIfInBounds_toArray, List.set_cons_zero, List.set_cons_succ]
        refine lt_skip 10 rfl (by kernel_rfl) (by kernel_rfl) (by kernel_rfl) (by kernel_rfl) (fun _ _ _ h => h) rfl (fun _ => HS.out) ?_
        simp only [Act.put, List.setIfInBounds_toArray, List.set_cons_zero, List.set_cons_succ]
        refine lt_skip 11 rfl (by kernel_rfl) (by kernel_rfl) (by kernel_rfl) (by kernel_rfl) (fun _ _ _ h => h) rfl (fun _ => HS.out) ?_
        simp only [Act.put, List.setIfInBounds_toArray, List.set_cons_zero, List.set_cons_succ]
        refine lt_skip 12 rfl (by kernel_rfl) (by kernel_rfl) (by kernel_rfl) (by kernel_rfl) (fun _ _ _ h => h) rfl (fun _ => HS.out) ?_
        simp only [Act.put, List.setIfInBounds_toArray, List.set_cons_zero, List.set_cons_succ]
        refine lt_skip 13 rfl (by kernel_rfl) (by kernel_rfl) (by kernel_rfl) (by kernel_rfl) (fun _ _ _ h => h) rfl (fun _ => HS.out) ?_
        simp only [Act.put, List.setIfInBounds_toArray, List.set_cons_zero, List.set_cons_succ]
        refine lt_pure 14 rfl (by kernel_rfl) (by kernel_rfl) (by kernel_rfl) (by kernel_rfl) (fun _ _ _ h => h) (v := ?_) (yi_run rfl (fun w => ?_)) (fun _ => HS.out) ?_
        rotate_left
        · first | (go_simp; done) | (go_simp; with_reducible rfl)
        simp only [Act.put, List.setIfInBounds_toArray, List.set_cons_zero, List.set_cons_succ]
        refine lt_done (by kernel_rfl) ?_
        have HS9 := HS
        clear HS
        have HXD := Lib.hid HS9.out
        go_wp2_with fail
        go_meet
        exact ⟨by rw [hb0], HXD⟩
      · obtain ⟨p, hp⟩ : ∃ p, k = p + 1 := ⟨k - 1, by omega⟩
        have hd2 : decide ((k : Int) > 0) = true := decide_eq_true (by omega)
        have hd3 : (0 : Int) < (k : Int) := by omega
        have hd5 : 0 < k := by omega
        obtain ⟨b2, o2, Ar2, ec2, B2, d2, D2, q2, e2, hA2, hbl3, hek2, hrg2, hen2⟩ := (HES.out w (Below.refl _ _)).at_ (show p < n by omega)
        injection hA2 with hA2; injection hA2 with hb2 ho2 _
        subst hb2 ho2
        have HRG2 : Hid (∀ z, Below w.heap.size w z → z.rangeAt b (o + p * 7) [.slice Ar2 e2.row.length ec2, .int .i64 e2.fam, .slice B2 e2.qual.length d2, .int .i64 e2.ts, .int .i64 e2.seq, .int .i64 e2.kind, .slice D2 e2.val.length q2]) := Lib.hid fun z hz j v hj => (hz.cell (p := ⟨b, _, none⟩) hbl3).trans (hrg2 j v hj)
        have HEN2 : Hid (∀ z, Below w.heap.size w z → En z Ar2 e2.row.length ec2 B2 e2.qual.length d2 D2 e2.val.length q2 e2) := Lib.hid fun z hz => hen2.later hz
        obtain ⟨cv, hcv⟩ : ∃ z, z = cmpE e2 e := ⟨_, rfl⟩
        have hb0 : bo = decide (cv ≥ 0) := by
          have hl : (es.take k).getLast? = some e2 := by rw [hp, take_snoc hek2, List.getLast?_append]; rfl
          rw [HBO.out, hcv]; unfold lastOk; rw [hl]
          by_cases h : cmpE e2 e < 0
          · simp [h, Int.not_le.2 h]
          · simp [h, Int.not_lt.1 h]
        have HCV := Lib.hid hcv.symm
        have HB0 := Lib.hid hb0
        have s1 : IntKind.i64.wrap (p : Int) = (p : Int) := i64_sum (by omega) (by omega)
        have s2 : (k : Int) - 1 = (p : Int) := by omega
        have i3 : (0 : Int) ≤ (p : Int) := by omega
        have i4 : (p : Int) < (n : Int) := by omega
        clear hp h0 hek2 hrg2 hen2 hcv hb0
        refine lt_start [] (by kernel_rfl) ?_
        intro xd hd
        refine ⟨fun z => OW w [bytO 5 (Al, cl, s.key)] z, ?_⟩
        have HS := Lib.hid (HX1.out.later hd)
        refine lt_pure 0 rfl (by kernel_rfl) (by kernel_rfl) (by kernel_rfl) (by kernel_rfl) (fun _ _ _ h => h) (v := ?_) (yi_run rfl (fun w => ?_)) (fun _ => HS.out) ?_
        rotate_left
        · first | (go_simp; done) | (go_simp; with_reducible rfl)
        simp only [Act.put, List.setIfInBounds_toArray, List.set_cons_zero, List.set_cons_succ]
        refine lt_pure 1 rfl (by kernel_rfl) (by kernel_rfl) (by kernel_rfl) (by kernel_rfl) (fun _ _ _ h => h) (v := ?_) (yi_run rfl (fun w => ?_)) (fun _ => HS.out) ?_
        rotate_left
        · first | (go_simp; done) | (go_simp; with_reducible rfl)
        simp only [Act.put, List.setIfInBounds_toArray, List.set_cons_zero, List.set_cons_succ]
        refine lt_pure 2 rfl (by kernel_rfl) (by kernel_rfl) (by kernel_rfl) (by kernel_rfl) (fun _ _ _ h => h) (v := ?_) (yi_run rfl (fun w => ?_)) (fun _ => HS.out) ?_
        rotate_left
        · first | (go_simp; done) | (go_simp; with_reducible rfl)
        simp only [Act.put, List.setIfInBounds_toArray, List.set_cons_zero, List.set_cons_succ]
        refine lt_pure 3 rfl (by kernel_rfl) (by kernel_rfl) (by kernel_rfl) (by kernel_rfl) (fun _ _ _ h => h) (v := ?_) (yi_run rfl (fun w => ?_)) (fun _ => HS.out) ?_
        rotate_left
        · first | (go_simp; done) | (go_simp; with_reducible rfl)
        simp only [Act.put, List.setIfInBounds_toArray, List.set_cons_zero, List.set_cons_succ]
        refine lt_pure 4 rfl (by kernel_rfl) (by kernel_rfl) (by kernel_rfl) (by kernel_rfl) (fun _ _ _ h => h) (v := ?_) (yi_run rfl (fun w => ?_)) (fun _ => HS.out) ?_
        rotate_left
        · first | (go_simp; done) | (go_simp; with_reducible rfl)
        simp only [Act.put, List.setIfInBounds_toArray, List.set_cons_zero, List.set_cons_succ]
        refine lt_pure 5 rfl (by kernel_rfl) (by kernel_rfl) (by kernel_rfl) (by kernel_rfl) (fun _ _ _ h => h) (v := ?_) (yi_run rfl (fun w => ?_)) (fun _ => HS.out) ?_
        rotate_left
        · first | (go_simp; done) | (go_simp; with_reducible rfl)
        simp only [Act.put, List.setIfInBounds_toArray, List.set_cons_zero, List.set_cons_succ]
        refine lt_pure 6 rfl (by kernel_rfl) (by kernel_rfl) (by kernel_rfl) (by kernel_rfl) (fun _ _ _ h => h) (v := ?_) (yi_run rfl (fun w => ?_)) (fun _ => HS.out) ?_
        rotate_left
        · first | (go_simp; done) | (go_simp; with_reducible rfl)
        simp only [Act.put, List.setIfInBounds_toArray, List.set_cons_zero, List.set_cons_succ]
        refine lt_take 7 [12, 13, 14] rfl (by kernel_rfl) (by kernel_rfl) (by kernel_rfl) (by kernel_rfl) (by kernel_rfl) (fun _ _ _ h => h) (yi_rowO rfl rfl rfl (fun w hS => HRG2.out _ (OW.up hS)) ent_row5) HS.out ?_
        simp only [Act.put, List.setIfInBounds_toArray, List.set_cons_zero, List.set_cons_succ]
        refine lt_pure 8 rfl (by kernel_rfl) (by kernel_rfl) (by kernel_rfl) (by kernel_rfl) (fun _ _ _ h => h) (v := ?_) (yi_run rfl (fun w => ?_)) (fun _ => HS.out) ?_
        rotate_left
        · first | (go_simp; done) | (go_simp; with_reducible rfl)
        simp only [Act.put, List.setIfInBounds_toArray, List.set_cons_zero, List.set_cons_succ]
        refine lt_pure 9 rfl (by kernel_rfl) (by kernel_rfl) (by kernel_rfl) (by kernel_rfl) (fun _ _ _ h => h) (v := ?_) (yi_run rfl (fun w => ?_)) (fun _ => HS.out) ?_
        rotate_left
        · first | (go_simp; done) | (go_simp; with_reducible rfl)
        simp only [Act.put, List.setIfInBounds_toArray, List.set_cons_zero, List.set_cons_succ]
        refine lt_pure 10 rfl (by kernel_rfl) (by kernel_rfl) (by kernel_rfl) (by kernel_rfl) (fun _ _ _ h => h) (v := ?_) (yi_run rfl (fun w => ?_)) (fun _ => HS.out) ?_
        rotate_left
        · first | (go_simp; done) | (go_simp; with_reducible rfl)
        simp only [Act.put, List.setIfInBounds_toArray, List.set_cons_zero, List.set_cons_succ]
        refine lt_take 11 [12, 13, 14] rfl (by kernel_rfl) (by kernel_rfl) (by kernel_rfl) (by kernel_rfl) (by kernel_rfl) (fun _ _ _ h => h) (yi_rowO rfl rfl rfl (fun w hS => HRG.out _ (OW.up hS)) ent_row5) HS.out ?_
        simp only [Act.put, List.setIfInBounds_toArray, List.set_cons_zero, List.set_cons_succ]
        refine lt_call 12 rfl (by kernel_rfl) rfl rfl ⟨_, Tryd.func43, by decide, by kernel_rfl⟩ [entV Ar2 e2.row.length ec2 B2 e2.qual.length d2 D2 e2.val.length q2 e2, entV Ar e.row.length ec B e.qual.length d D e.val.length q e] rfl ?_
        refine (rcompare_any e2 e Ar2 _ ec2 B2 _ d2 D2 _ q2 Ar _ ec B _ d D _ q _ (HEN2.out _ HS.out.up) (HEN.out _ HS.out.up)).mono ?_
        rw [HCV.out]
        rintro r z9 ⟨rfl, hb⟩
        replace HS := Lib.hid (HS.out.later hb)
        clear hb
        refine ⟨_, rfl, fun _ => HS.out, ?_⟩
        simp only [Act.put, List.setIfInBounds_toArray, List.set_cons_zero, List.set_cons_succ]
        refine lt_pure 13 rfl (by kernel_rfl) (by kernel_rfl) (by kernel_rfl) (by kernel_rfl) (fun _ _ _ h => h) (v := ?_) (yi_run rfl (fun w => ?_)) (fun _ => HS.out) ?_
        rotate_left
        · first | (go_simp; done) | (go_simp; with_reducible rfl)
        simp only [Act.put, List.setIfInBounds_toArray, List.set_cons_zero, List.set_cons_succ]
        refine lt_pure 14 rfl (by kernel_rfl) (by kernel_rfl) (by kernel_rfl) (by kernel_rfl) (fun _ _ _ h => h) (v := ?_) (yi_run rfl (fun w => ?_)) (fun _ => HS.out) ?_
        rotate_left
        · first | (go_simp; done) | (go_simp; with_reducible rfl)
        simp only [Act.put, List.setIfInBounds_toArray, List.set_cons_zero, List.set_cons_succ]
        refine lt_done (by kernel_rfl) ?_
        have HS9 := HS
        clear HS
        have HXD := Lib.hid HS9.out
        go_wp2_with fail
        go_meet
        exact ⟨by rw [HB0.out], HXD⟩
    clear HX1
    obtain ⟨rfl, HX⟩ := hcut
    obtain ⟨w4, rfl⟩ : ∃ z : World, z = wc := ⟨_, rfl⟩
    by_cases hlo : lastOk (es.take k) e = false
    case pos =>
      have hb1 : bo = true := by rw [HBO.out, hlo]; rfl
      have HPF : Hid (buildE5 (r : Int) es = ([], 30)) := Lib.hid (by
        have h := HAT.out.2 30 (by unfold addC; rw [if_neg (fun h => h HC0.out), if_pos hlo]) (by decide)
        rw [if_neg HRR.out] at h; exact h)
      clear HBO hlo
      subst hb1
      go_wp2_with fail
      go_ret2
      rw [HPF.out]
      exact bytes_post2 (n := 0) (own_nil _ _ _ _) HX.out.up
    have hb1 : bo = false := by rw [HBO.out]; cases h : lastOk (es.take k) e <;> simp_all
    have HLO := Lib.hid hlo
    clear HBO hlo
    subst hb1
    obtain ⟨kb, hkb⟩ : ∃ z, z = keyE e := ⟨_, rfl⟩
    obtain ⟨kn, hkn⟩ : ∃ z, z = kb.length := ⟨_, rfl⟩
    have hok := ok_of HC0.out
    have hknb : kn ≤ 1048 := by rw [hkn, hkb]; exact keyE_len hok
    have hvb : e.val.length ≤ 4096 := hok.val.1
    obtain ⟨al, hal⟩ : ∃ z, z = alikeB r s kb := ⟨_, rfl⟩
    obtain ⟨sh, hsh⟩ : ∃ z, z = shareN s.key kb := ⟨_, rfl⟩
    have HALL : Hid (∀ l, l ∈ es.take k → checkE l = 0) := Lib.hid (by
      have := buildK_checked r (es.take k) [] (fun l h => by cases h) HBK.out
      simpa using this)
    have halk : al < kn := by have h9 := alike_lt (R := r) HALL.out HC0.out HLO.out; rw [hal, hkn, hkb, HS.out]; exact h9
    have HKB := Lib.hid hkb.symm
    have HKE : Hid (KeyE e = (kb, 0)) := Lib.hid (by unfold KeyE; rw [if_pos HC0.out, hkb])
    have HKN := Lib.hid hkn.symm
    have HAL := Lib.hid hal
    have HSH := Lib.hid hsh.symm
    have HTK : Hid (runB r (es.take (k + 1)) = stepB r s kb e.val) := Lib.hid (by rw [runB_take r es HEK.out, ← HS.out, hkb])
    obtain ⟨sz2, hsz2⟩ : ∃ z, z = sz + (if s.n % r = 0 then 4 else 0) := ⟨_, rfl⟩
    have HSZ2 := Lib.hid hsz2
    have hsz2b : sz2 ≤ 131076 := by rw [hsz2]; split <;> omega
    have HV0 : Hid (∀ z, Below w.heap.size w z → z.cell? ⟨b, o + k * 7 + 6, none⟩ = some (.slice D e.val.length q)) := Lib.hid fun z hz => (HRG.out z hz) 6 _ rfl
    clear hkb hkn hal hsh hsz2 hok
    go_upto_if 61 with (first
      | (refine wpList_load_at rfl 37 (.tmp 50) rfl rfl (HRG.out _ HX.out.up) ent_row5 ?_)
      | (go_at_call 56; go_must (refine (rKey_any e Ar _ ec B _ d D _ q _ (HEN.out _ HX.out.up)).mono ?_); rw [HKE.out]; rintro r y1 hp; obtain ⟨Ak, ck, rfl, _, ho, hb⟩ := hp.at_ HKN.out rfl; have HY := Lib.hid (HX.out.addF9 (OW.byt1 hb ho)); clear hp ho hb HX)
      | (go_at_call 57; go_must (refine (rshared_any s.key kb Al Ak kl cl kn ck _ (by omega) (HY.out.sl (i := 1) rfl HK.out).rb (HY.out.sl (i := 0) rfl HKN.out).rb).mono ?_); rw [HSH.out]; rintro r y2 ⟨rfl, hb⟩; have HZ := Lib.hid (HY.out.later hb); clear hb HY))
    obtain ⟨w5, rfl⟩ : ∃ z : World, z = y2 := ⟨_, rfl⟩
    go_cut [7, 12] (fun sv nv wx => w5 = wx ∧ sv = .int .i64 (sz2 : Int) ∧ nv = .int .i64 (al : Int))
    case first =>
      by_cases hf : k % r = 0
      · have e1 : ((k : Int).tmod (r : Int)) = 0 := by rw [← Int.ofNat_tmod, hf]; rfl
        have e2 : ((k : Int) % (r : Int)) = 0 := by rw [← Int.natCast_emod, hf]; rfl
        have HA0 : Hid (al = 0) := Lib.hid (by rw [HAL.out]; unfold alikeB; rw [HN.out, if_pos hf])
        have HQ : Hid (sz2 = sz + 4) := Lib.hid (by rw [HSZ2.out, HN.out, if_pos hf])
        clear hf
        go_wp2_with fail
        go_meet
        exact ⟨rfl, by rw [HQ.out]; rfl, by rw [HA0.out]; rfl⟩
      · have e1 : ¬ ((k : Int).tmod (r : Int)) = 0 := by rw [← Int.ofNat_tmod]; omega
        have e3 : (((k : Int).tmod (r : Int)) == 0) = false := beq_eq_false_iff_ne.2 e1
        have e2 : ¬ ((k : Int) % (r : Int)) = 0 := by rw [← Int.natCast_emod]; omega
        have e4 : (((k : Int) % (r : Int)) == 0) = false := beq_eq_false_iff_ne.2 e2
        have HA0 : Hid (al = sh) := Lib.hid (by rw [HAL.out, ← HSH.out]; unfold alikeB; rw [HN.out, if_neg hf])
        have HQ : Hid (sz2 = sz) := Lib.hid (by rw [HSZ2.out, HN.out, if_neg hf]; rfl)
        clear hf
        go_wp2_with fail
        go_meet
        exact ⟨rfl, by rw [HQ.out], by rw [HA0.out]⟩
    obtain ⟨rfl, rfl, rfl⟩ := hcut
    obtain ⟨U, hU⟩ : ∃ z, z = uintB al := ⟨_, rfl⟩
    obtain ⟨un, hun⟩ : ∃ z, z = U.length := ⟨_, rfl⟩
    have hun2 : un ≤ 10 := by rw [hun, hU]; exact uintB_le10 (by omega)
    obtain ⟨kd, hkd⟩ : ∃ z, z = kb.drop al := ⟨_, rfl⟩
    have hkdl : kd.length = kn - al := by rw [hkd, List.length_drop, HKN.out]
    obtain ⟨V, hV⟩ : ∃ z, z = uintB kd.length ++ kd := ⟨_, rfl⟩
    obtain ⟨vn, hvn⟩ : ∃ z, z = V.length := ⟨_, rfl⟩
    have hvn2 : vn ≤ 1058 := by rw [hvn, hV, List.length_append]; have := uintB_le10 (n := kd.length) (by omega); omega
    obtain ⟨W, hW⟩ : ∃ z, z = uintB e.val.length ++ e.val := ⟨_, rfl⟩
    obtain ⟨wn, hwn⟩ : ∃ z, z = W.length := ⟨_, rfl⟩
    have hwn2 : wn ≤ 4106 := by rw [hwn, hW, List.length_append]; have := uintB_le10 (n := e.val.length) (by omega); omega
    have HU := Lib.hid hU.symm
    have HUN := Lib.hid hun.symm
    have HKD := Lib.hid hkd
    have HV := Lib.hid hV.symm
    have HVN := Lib.hid hvn.symm
    have HW := Lib.hid hW.symm
    have HWN := Lib.hid hwn.symm
    have HSS : Hid (sizeS (stepB r s kb e.val) = sz2 + un + vn + wn) := Lib.hid (by
      rw [size_step, ← HSZ.out, ← HSZ2.out, ← HAL.out]
      unfold rowK
      rw [List.length_append, List.length_append, HU.out, ← hkd, HV.out, HW.out, HUN.out, HVN.out, HWN.out]
      omega)
    obtain ⟨vl, hvl⟩ : ∃ z, z = e.val.length := ⟨_, rfl⟩
    have HEV : Hid (∀ z, Below w.heap.size w z → RB z z.heap.size D vl e.val) := Lib.hid fun z hz => by rw [hvl]; exact (HEN.out z hz).val.rb
    have HVC2 : Hid (∀ z, Below w.heap.size w z → z.cell? ⟨b, o + k * 7 + 6, none⟩ = some (.slice D vl q)) := Lib.hid fun z hz => by rw [hvl]; exact HV0.out z hz
    have hvlb : vl ≤ 4096 := by omega
    have hckc : kn ≤ ck := (HZ.out.sl (i := 0) rfl HKN.out).cap
    obtain ⟨gk, cpk, hv, _⟩ := own_form (HZ.out.row (i := 0) rfl) (by show 0 < kb.length; have := HKN.out; omega)
    injection hv with hv _ hcp
    subst hv
    subst hcp
    have HSD : Hid (∀ z, Sl z (some ⟨gk, 0, none⟩) kn ck kb → Sl z (some ⟨gk, al, none⟩) (kn - al) (ck - al) kd) := Lib.hid fun z h => by
      have h1 := h.drop (k := al) (by omega) (by omega)
      rw [← HKD.out, Option.map_some, show (⟨gk, 0, none⟩ : Addr).add al = ⟨gk, al, none⟩ from by simp [Addr.add]; omega] at h1
      exact h1
    have j1 : (0 : Int) ≤ (al : Int) := by omega
    have j2 : (al : Int) ≤ (kn : Int) := by omega
    have j3 : (kn : Int) ≤ (ck : Int) := by omega
    have q1 : IntKind.i64.wrap ((sz2 : Int) + (un : Int)) = (sz2 : Int) + (un : Int) := i64_sum (by omega) (by omega)
    have q2 : IntKind.i64.wrap ((sz2 : Int) + (un : Int) + (vn : Int)) = (sz2 : Int) + (un : Int) + (vn : Int) := i64_sum (by omega) (by omega)
    have q3 : IntKind.i64.wrap ((sz2 : Int) + (un : Int) + (vn : Int) + (wn : Int)) = (sz2 : Int) + (un : Int) + (vn : Int) + (wn : Int) := i64_sum (by omega) (by omega)
    have HKDL := Lib.hid hkdl
    clear hU hun hkd hkdl hV hvn hW hwn hvl HV0 hvb
    go_wp2_with fail
    have k6 : ck ≠ al := by omega
    have k7 : ¬ al = ck := by omega
    have q0 : IntKind.u64.wrap (al : Int) = (al : Int) := by rw [IntKind.wrap_u64]; omega
    refine lt_start [] (by kernel_rfl) ?_
    intro xd hd
    refine ⟨fun z => OW w [bytO 5 (some ⟨gk, 0, none⟩, ck, kb), bytO 5 (Al, cl, s.key)] z, ?_⟩
    have HS := Lib.hid (HZ.out.later hd)
    refine lt_pure 0 rfl (by kernel_rfl) (by kernel_rfl) (by kernel_rfl) (by kernel_rfl) (fun _ _ _ h => h) (v := ?_) (yi_run rfl (fun w => ?_)) (fun _ => HS.out) ?_
    rotate_left
    · first | (go_simp; done) | (go_simp; with_reducible rfl)
    simp only [Act.put, List.setIfInBounds_toArray, List.set_cons_zero, List.set_cons_succ]
    refine lt_pure 1 rfl (by kernel_rfl) (by kernel_rfl) (by kernel_rfl) (by kernel_rfl) (fun _ _ _ h => h) (v := ?_) (yi_run rfl (fun w => ?_)) (fun _ => HS.out) ?_
    rotate_left
    · first | (go_simp; done) | (go_simp; with_reducible rfl)
    simp only [Act.put, List.setIfInBounds_toArray, List.set_cons_zero, List.set_cons_succ]
    refine lt_pure 2 rfl (by kernel_rfl) (by kernel_rfl) (by kernel_rfl) (by kernel_rfl) (fun _ _ _ h => h) (v := ?_) (yi_run rfl (fun w => ?_)) (fun _ => HS.out) ?_
    rotate_left
    · first | (go_simp; done) | (go_simp; with_reducible rfl)
    simp only [Act.put, List.setIfInBounds_toArray, List.set_cons_zero, List.set_cons_succ]
    refine lt_pure 6 rfl (by kernel_rfl) (by kernel_rfl) (by kernel_rfl) (by kernel_rfl) (fun _ _ _ h => h) (v := ?_) (yi_run rfl (fun w => ?_)) (fun _ => HS.out) ?_
    rotate_left
    · first | (go_simp; done) | (go_simp; with_reducible rfl)
    simp only [Act.put, List.setIfInBounds_toArray, List.set_cons_zero, List.set_cons_succ]
    refine lt_pure 7 rfl (by kernel_rfl) (by kernel_rfl) (by kernel_rfl) (by kernel_rfl) (fun _ _ _ h => h) (v := ?_) (yi_run rfl (fun w => ?_)) (fun _ => HS.out) ?_
    rotate_left
    · first | (go_simp; done) | (go_simp; with_reducible rfl)
    simp only [Act.put, List.setIfInBounds_toArray, List.set_cons_zero, List.set_cons_succ]
    refine lt_pure 8 rfl (by kernel_rfl) (by kernel_rfl) (by kernel_rfl) (by kernel_rfl) (fun _ _ _ h => h) (v := ?_) (yi_run rfl (fun w => ?_)) (fun _ => HS.out) ?_
    rotate_left
    · first | (go_simp; done) | (go_simp; with_reducible rfl)
    simp only [Act.put, List.setIfInBounds_toArray, List.set_cons_zero, List.set_cons_succ]
    refine lt_pure 12 rfl (by kernel_rfl) (by kernel_rfl) (by kernel_rfl) (by kernel_rfl) (fun _ _ _ h => h) (v := ?_) (yi_run rfl (fun w => ?_)) (fun _ => HS.out) ?_
    rotate_left
    · first | (go_simp; done) | (go_simp; with_reducible rfl)
    simp only [Act.put, List.setIfInBounds_toArray, List.set_cons_zero, List.set_cons_succ]
    refine lt_pure 13 rfl (by kernel_rfl) (by kernel_rfl) (by kernel_rfl) (by kernel_rfl) (fun _ _ _ h => h) (v := ?_) (yi_run rfl (fun w => ?_)) (fun _ => HS.out) ?_
    rotate_left
    · first | (go_simp; done) | (go_simp; with_reducible rfl)
    simp only [Act.put, List.setIfInBounds_toArray, List.set_cons_zero, List.set_cons_succ]
    refine lt_pure 14 rfl (by kernel_rfl) (by kernel_rfl) (by kernel_rfl) (by kernel_rfl) (fun _ _ _ h => h) (v := ?_) (yi_run rfl (fun w => ?_)) (fun _ => HS.out) ?_
    rotate_left
    · first | (go_simp; done) | (go_simp; with_reducible rfl)
    simp only [Act.put, List.setIfInBounds_toArray, List.set_cons_zero, List.set_cons_succ]
    refine lt_pure 15 rfl (by kernel_rfl) (by kernel_rfl) (by kernel_rfl) (by kernel_rfl) (fun _ _ _ h => h) (v := ?_) (yi_run rfl (fun w => ?_)) (fun _ => HS.out) ?_
    rotate_left
    · first | (go_simp; done) | (go_simp; with_reducible rfl)
    simp only [Act.put, List.setIfInBounds_toArray, List.set_cons_zero, List.set_cons_succ]
    refine lt_take 16 [17, 18, 19, 20] rfl (by kernel_rfl) (by kernel_rfl) (by kernel_rfl) (by kernel_rfl) (by kernel_rfl) (fun _ _ _ h => h) (yi_cell rfl rfl rfl (fun w hS => HVC2.out _ (OW.up hS)) (fun w => Tryd.isAgg24 w)) HS.out ?_
    simp only [Act.put, List.setIfInBounds_toArray, List.set_cons_zero, List.set_cons_succ]
    refine lt_call 3 rfl (by kernel_rfl) rfl rfl ⟨_, Tryd.func58, by decide, by kernel_rfl⟩ [.int .u64 (al : Int)] rfl ?_
    refine (rUint_any al _ (by omega)).mono ?_
    rw [HU.out]
    rintro r z11 hp
    obtain ⟨A11, c11, rfl, _, ho, hb⟩ := hp.at_ (n := un) HUN.out
    replace HS := Lib.hid (HS.out.later hb)
    clear hp ho hb
    refine ⟨_, rfl, fun _ => HS.out, ?_⟩
    simp only [Act.put, List.setIfInBounds_toArray, List.set_cons_zero, List.set_cons_succ]
    refine lt_pure 4 rfl (by kernel_rfl) (by kernel_rfl) (by kernel_rfl) (by kernel_rfl) (fun _ _ _ h => h) (v := ?_) (yi_run rfl (fun w => ?_)) (fun _ => HS.out) ?_
    rotate_left
    · first | (go_simp; done) | (go_simp; with_reducible rfl)
    simp only [Act.put, List.setIfInBounds_toArray, List.set_cons_zero, List.set_cons_succ]
    refine lt_pure 5 rfl (by kernel_rfl) (by kernel_rfl) (by kernel_rfl) (by kernel_rfl) (fun _ _ _ h => h) (v := ?_) (yi_run rfl (fun w => ?_)) (fun _ => HS.out) ?_
    rotate_left
    · first | (go_simp; done) | (go_simp; with_reducible rfl)
    simp only [Act.put, List.setIfInBounds_toArray, List.set_cons_zero, List.set_cons_succ]
    refine lt_call 9 rfl (by kernel_rfl) rfl rfl ⟨_, Tryd.func59, by decide, by kernel_rfl⟩ [.slice (some ⟨gk, al, none⟩) (kn - al) (ck - al)] rfl ?_
    refine (rBytes_any kd _ (kn - al) _ _ (by omega) (HSD.out _ (HS.out.sl (i := 0) rfl HKN.out)).rb).mono ?_
    rw [HV.out]
    rintro r z12 hp
    obtain ⟨A12, c12, rfl, _, ho, hb⟩ := hp.at_ (n := vn) HVN.out
    replace HS := Lib.hid (HS.out.later hb)
    clear hp ho hb
    refine ⟨_, rfl, fun _ => HS.out, ?_⟩
    simp only [Act.put, List.setIfInBounds_toArray, List.set_cons_zero, List.set_cons_succ]
    refine lt_pure 10 rfl (by kernel_rfl) (by kernel_rfl) (by kernel_rfl) (by kernel_rfl) (fun _ _ _ h => h) (v := ?_) (yi_run rfl (fun w => ?_)) (fun _ => HS.out) ?_
    rotate_left
    · first | (go_simp; done) | (go_simp; with_reducible rfl)
    simp only [Act.put, List.setIfInBounds_toArray, List.set_cons_zero, List.set_cons_succ]
    refine lt_pure 11 rfl (by kernel_rfl) (by kernel_rfl) (by kernel_rfl) (by kernel_rfl) (fun _ _ _ h => h) (v := ?_) (yi_run rfl (fun w => ?_)) (fun _ => HS.out) ?_
    rotate_left
    · first | (go_simp; done) | (go_simp; with_reducible rfl)
    simp only [Act.put, List.setIfInBounds_toArray, List.set_cons_zero, List.set_cons_succ]
    refine lt_call 17 rfl (by kernel_rfl) rfl rfl ⟨_, Tryd.func59, by decide, by kernel_rfl⟩ [.slice D vl q] rfl ?_
    refine (rBytes_any e.val _ vl _ _ (by omega) (HEV.out _ HS.out.up)).mono ?_
    rw [HW.out]
    rintro r z13 hp
    obtain ⟨A13, c13, rfl, _, ho, hb⟩ := hp.at_ (n := wn) HWN.out
    replace HS := Lib.hid (HS.out.later hb)
    clear hp ho hb
    refine ⟨_, rfl, fun _ => HS.out, ?_⟩
    simp only [Act.put, List.setIfInBounds_toArray, List.set_cons_zero, List.set_cons_succ]
    refine lt_pure 18 rfl (by kernel_rfl) (by kernel_rfl) (by kernel_rfl) (by kernel_rfl) (fun _ _ _ h => h) (v := ?_) (yi_run rfl (fun w => ?_)) (fun _ => HS.out) ?_
    rotate_left
    · first | (go_simp; done) | (go_simp; with_reducible rfl)
    simp only [Act.put, List.setIfInBounds_toArray, List.set_cons_zero, List.set_cons_succ]
    refine lt_pure 19 rfl (by kernel_rfl) (by kernel_rfl) (by kernel_rfl) (by kernel_rfl) (fun _ _ _ h => h) (v := ?_) (yi_run rfl (fun w => ?_)) (fun _ => HS.out) ?_
    rotate_left
    · first | (go_simp; done) | (go_simp; with_reducible rfl)
    simp only [Act.put, List.setIfInBounds_toArray, List.set_cons_zero, List.set_cons_succ]
    refine lt_pure 20 rfl (by kernel_rfl) (by kernel_rfl) (by kernel_rfl) (by kernel_rfl) (fun _ _ _ h => h) (v := ?_) (yi_run rfl (fun w => ?_)) (fun _ => HS.out) ?_
    rotate_left
    · first | (go_simp; done) | (go_simp; with_reducible rfl)
    simp only [Act.put, List.setIfInBounds_toArray, List.set_cons_zero, List.set_cons_succ]
    refine lt_done (by kernel_rfl) ?_
    have HS9 := HS
    clear HS
    have HQ0 := Lib.hid HS9.out
    clear HS9 k6 k7 q0 q1 q2 q3 HZ
    by_cases hbig : 131072 < sz2 + un + vn + wn
    case pos =>
      have HPF : Hid (buildE5 (r : Int) es = ([], 53)) := Lib.hid (by
        have h := HAT.out.2 53 (by unfold addC; rw [if_neg (fun h => h HC0.out), if_neg HLO.out, if_pos (by rw [← HS.out, HKB.out, HSS.out]; exact hbig)]) (by decide)
        rw [if_neg HRR.out] at h; exact h)
      have h1 : (131072 : Int) < (sz2 : Int) + (un : Int) + (vn : Int) + (wn : Int) := by omega
      clear hbig
      go_wp2_with fail
      go_ret2
      rw [HPF.out]
      exact bytes_post2 (n := 0) (own_nil _ _ _ _) HQ0.out.up
    have h1 : ¬ (131072 : Int) < (sz2 : Int) + (un : Int) + (vn : Int) + (wn : Int) := by omega
    have HBG := Lib.hid hbig
    clear hbig
    go_wp2_with fail
    go_roundw
    case rel =>
      have hb9 := HBG.out
      refine ⟨k + 1, sz2 + un + vn + wn, kn, some ⟨gk, 0, none⟩, ck, by omega, by omega, hknb, by go_num, rfl, rfl, Lib.hid (HAT.out.1 ?_), Lib.hid (by rw [HTK.out, HSS.out]), Lib.hid (by rw [HTK.out]; exact HKN.out), Lib.hid ?_⟩
      · unfold addC
        rw [if_neg (fun h => h HC0.out), if_neg HLO.out, if_neg (by rw [← HS.out, HKB.out, HSS.out]; exact hb9)]
      · rw [HTK.out]
        exact HQ0.out.sub (.cons_cons _ (.cons _ (List.Sublist.refl _)))
    case measure => simp [intOf]; omega
end Go.Proofs.YtmigjipfomfacaaDoor
namespace Go.Proofs.YtmigjipfomfacaaDoor
open Go.RowKit
theorem reads_drop {x : World} {B sz g o k N : Nat} {xs : List Value} (h : Reads x B sz (some ⟨g, o, none⟩) k xs) (hN : N < k) : Reads x B sz (some ⟨g, o + N * sz, none⟩) (k - N) (xs.drop (N * sz)) := by
  obtain ⟨b', o', e, hb, hc⟩ := h.2 (by omega)
  injection e with e; injection e with e1 e2 _
  subst e1 e2
  refine ⟨by rw [List.length_drop, h.1, Nat.sub_mul], fun _ => ⟨g, o + N * sz, rfl, hb, fun j u hu => ?_⟩⟩
  rw [List.getElem?_drop] at hu
  rw [Nat.add_assoc]
  exact hc _ u hu
theorem reads_drop0 {x : World} {B sz g k N : Nat} {xs : List Value} (h : Reads x B sz (some ⟨g, 0, none⟩) k xs) (hN : N < k) : Reads x B sz (some ⟨g, N * sz, none⟩) (k - N) (xs.drop (N * sz)) := by
  have := reads_drop h hN
  rwa [Nat.zero_add] at this
theorem cells_one {rs : List ER} {u : Value} (h : u ∈ rs.flatMap ER.cells) : u.oneCell' = true := by
  obtain ⟨r, _, hu⟩ := List.mem_flatMap.1 h
  simp only [ER.cells, List.mem_cons, List.not_mem_nil, or_false] at hu
  rcases hu with rfl | rfl | rfl | rfl | rfl | rfl | rfl <;> rfl
theorem flat7_drop (rs : List ER) (m : Nat) : (rs.flatMap ER.cells).drop (m * 7) = (rs.drop m).flatMap ER.cells := by
  induction rs generalizing m with
  | nil => simp
  | cons r rs ih =>
    cases m with
    | zero => simp
    | succ m =>
      rw [List.drop_succ_cons, List.flatMap_cons, List.drop_append, ER.len, List.drop_of_length_le (by rw [ER.len]; omega), show (m + 1) * 7 - 7 = m * 7 from by omega, ih, List.nil_append]
theorem OW.rowRange {w x : World} {os : List Ob} {i g c k j : Nat} {T : TypeId} {rs : List ER} {r : ER} (h : OW w os x) (hi : os[i]? = some (rowO T 7 (.slice (some ⟨g, 0, none⟩) k c) k (rs.flatMap ER.cells))) (hr : rs[j]? = some r) : x.rangeAt g (j * 7) r.cells := fun q v hq => by
  have hq7 : q < 7 := (List.getElem?_eq_some_iff.1 hq).1
  have hrow := h.row hi
  have hjl : j < rs.length := (List.getElem?_eq_some_iff.1 hr).1
  have hlen : (rs.flatMap ER.cells).length = k * 7 := hrow.1
  rw [flat7_len] at hlen
  rw [World.ownsRow.cellAt hrow (j * 7 + q) (by omega), flat7_at hr q hq7]; exact hq
structure Srt (w : World) (rs : List ER) (L : List Ent) : Prop where
  ents : rs.map ER.e = L
  en : ∀ r, r ∈ rs → ∀ z, Below w.heap.size w z → r.En z
theorem Srt.len {w : World} {rs : List ER} {L : List Ent} (h : Srt w rs L) : rs.length = L.length := by rw [← h.ents, List.length_map]
theorem Srt.at_ {w : World} {rs : List ER} {L : List Ent} (h : Srt w rs L) {j : Nat} {r : ER} (hr : rs[j]? = some r) : L[j]? = some r.e := by rw [← h.ents, List.getElem?_map, hr]; rfl
theorem Srt.ens {w x : World} {os : List Ob} {rs : List ER} {L : List Ent} {i c k : Nat} {A : Option Addr} {T : TypeId} (h : Srt w rs L) (hx : OW w os x) (hi : os[i]? = some (rowO T 7 (.slice A k c) k (rs.flatMap ER.cells))) : Ens x A k L := by
  rw [← h.ents]
  exact hx.ens hi fun r hr => h.en r hr x hx.up
set_option maxRecDepth 100000 in
set_option maxHeartbeats 4000000 in
theorem sorted_any (es : List Ent) (A : Option Addr) (n c : Nat) (w : World) (hes : Ens w A n es) (_hn : n ≤ 9223372036854775807) :
    Calls Tryd.prog 9 #[.slice A n c] w fun e z => ∃ (MA : Option Addr) (mc k : Nat) (rs : List ER), e = .returned (.slice MA k mc) ∧ k ≤ 80 ∧ Srt w rs (sortL (es.take 80)) ∧ OW w [rowO 37 7 (.slice MA k mc) k (rs.flatMap ER.cells)] z := by
  have HLE := Lib.hid hes.len
  have HES : Hid (∀ z, Below w.heap.size w z → Ens z A n es) := Lib.hid fun z hz => hes.later hz
  have HX0 : Hid (OW w [rowO 37 7 (.slice none 0 0) 0 []] w) := Lib.hid ((OW.nil w).nilRow 37 7)
  clear hes
  go_enter Tryd.func9, Tryd.ntmps9
  go_wp2_with fail
  go_loopw [3, 4, 5] (fun mv iv _ wr => ∃ (i k : Nat) (MA : Option Addr) (mc : Nat) (rs : List ER), i ≤ n ∧ i ≤ 80 ∧ k ≤ i ∧ iv = .int .i64 i ∧ mv = .slice MA k mc ∧ Hid (rs.length = k) ∧ Hid (Srt w rs (sortL (es.take i))) ∧ Hid (OW w [rowO 37 7 (.slice MA k mc) k (rs.flatMap ER.cells)] wr)) (fun _ iv _ _ => 80 - (intOf iv).toNat)
  case atStart => exact ⟨0, 0, none, 0, [], Nat.zero_le _, by omega, Nat.le_refl _, rfl, rfl, Lib.hid rfl, Lib.hid ⟨rfl, fun r h => by cases h⟩, HX0⟩
  case round =>
    clear HX0
    obtain ⟨i, k, MA, mc, rs, hin, hi80, hki, rfl, rfl, HRL, HSR, HX⟩ := hrel
    by_cases hgo : i < n ∧ i < 80
    case neg =>
      have HTK : Hid (es.take i = es.take 80) := Lib.hid (by
        rcases Nat.lt_or_ge i n with h | h
        · rw [show i = 80 from by omega]
        · rw [take_all (by have := HLE.out; omega), take_all (by have := HLE.out; omega)])
      have hk80 : k ≤ 80 := by omega
      by_cases hlt : i < n
      · have hd : decide ((i : Int) < (n : Int)) = true := decide_eq_true (by omega)
        have hd2 : decide ((i : Int) < 80) = false := decide_eq_false (by omega)
        have hd3 : ¬ i < 80 := by omega
        clear hgo
        go_wp2_with fail
        go_ret
        exact ⟨MA, mc, k, rs, rfl, hk80, by rw [← HTK.out]; exact HSR.out, HX.out⟩
      · have hd : decide ((i : Int) < (n : Int)) = false := decide_eq_false (by omega)
        clear hgo
        go_wp2_with fail
        go_ret
        exact ⟨MA, mc, k, rs, rfl, hk80, by rw [← HTK.out]; exact HSR.out, HX.out⟩
    obtain ⟨hlt, hlt80⟩ := hgo
    have hd : decide ((i : Int) < (n : Int)) = true := decide_eq_true (by omega)
    have hd2 : decide ((i : Int) < 80) = true := decide_eq_true (by omega)
    obtain ⟨b, oo, Ar, ec, B, d, D, q, e, rfl, hbl2, hek, hrg, hen⟩ := (HES.out w (Below.refl _ _)).at_ hlt
    have HRG : Hid (∀ z, Below w.heap.size w z → z.rangeAt b (oo + i * 7) [.slice Ar e.row.length ec, .int .i64 e.fam, .slice B e.qual.length d, .int .i64 e.ts, .int .i64 e.seq, .int .i64 e.kind, .slice D e.val.length q]) := Lib.hid fun z hz j v hj => (hz.cell (p := ⟨b, _, none⟩) hbl2).trans (hrg j v hj)
    have HEN : Hid (∀ z, Below w.heap.size w z → En z Ar e.row.length ec B e.qual.length d D e.val.length q e) := Lib.hid fun z hz => hen.later hz
    have HTK : Hid (sortL (es.take (i + 1)) = sortStep (sortL (es.take i)) e) := Lib.hid (by rw [take_snoc hek, sortL_snoc])
    obtain ⟨m, hm⟩ : ∃ z, z = sortL (es.take i) := ⟨_, rfl⟩
    rw [← hm] at HSR HTK
    have HML : Hid (m.length = k) := Lib.hid (by rw [← HSR.out.len]; exact HRL.out)
    obtain ⟨ce, hce⟩ : ∃ z, z = checkE e := ⟨_, rfl⟩
    have HCE := Lib.hid hce.symm
    have i1 : (0 : Int) ≤ (i : Int) := by omega
    have i2 : (i : Int) < (n : Int) := by omega
    clear hek hrg hen hce hm
    by_cases hc : ce = 0
    case neg =>
      have hd3 : (ce != 0) = true := bne_iff_ne.2 hc
      have HST : Hid (sortStep m e = m) := Lib.hid (by unfold sortStep; rw [if_pos (by rw [HCE.out]; exact hc)])
      clear hc
      go_wp2_with (first
        | (refine wpList_load_at rfl 37 (.tmp 19) rfl rfl (HRG.out _ HX.out.up) ent_row5 ?_)
        | (go_at_call 42; go_must (refine (rCheckE_any e Ar _ ec B _ d D _ q _ (HEN.out _ HX.out.up)).mono ?_); rw [HCE.out]; rintro r y1 ⟨rfl, hb⟩; have HX1 := Lib.hid (HX.out.later hb); clear hb HX))
      go_roundw
      case rel => exact ⟨i + 1, k, MA, mc, rs, by omega, by omega, by omega, by go_num, rfl, HRL, Lib.hid (by rw [HTK.out, HST.out]; exact HSR.out), HX1⟩
      case measure => simp [intOf]; omega
    have hd3 : (ce != 0) = false := by rw [hc]; rfl
    have HST : Hid (sortStep m e = insE m e) := Lib.hid (by unfold sortStep; rw [if_neg (by rw [HCE.out, hc]; decide)])
    obtain ⟨N, hN⟩ : ∃ z, z = insN m e := ⟨_, rfl⟩
    have hNk : N ≤ k := by rw [hN, ← HML.out]; exact twN_le _ _
    have HN := Lib.hid hN
    clear hc hN
    go_upto_region 7 with (first
      | (refine wpList_load_at rfl 37 (.tmp 19) rfl rfl (HRG.out _ HX.out.up) ent_row5 ?_)
      | (go_at_call 42; go_must (refine (rCheckE_any e Ar _ ec B _ d D _ q _ (HEN.out _ HX.out.up)).mono ?_); rw [HCE.out]; rintro r y1 ⟨rfl, hb⟩; have HX1 := Lib.hid (HX.out.later hb); clear hb HX))
    clear hd hd2 hd3
    obtain ⟨wo, rfl⟩ : ∃ z : World, z = wr := ⟨_, rfl⟩
    have hk80 : k ≤ 80 := by omega
    go_loopw [5] (fun av wr => ∃ a : Nat, a ≤ N ∧ av = .int .i64 a ∧ Hid (OW w [rowO 37 7 (.slice MA k mc) k (rs.flatMap ER.cells)] wr)) (fun av _ => 80 - (intOf av).toNat)
    case atStart => exact ⟨0, Nat.zero_le _, rfl, HX1⟩
    case round =>
      clear HX1
      obtain ⟨a, haN, rfl, HX⟩ := hrel
      by_cases hak : a < k
      case pos =>
        have hda : decide ((a : Int) < (k : Int)) = true := decide_eq_true (by omega)
        have hda2 : a < k := hak
        obtain ⟨mg, mcap, hv, _⟩ := own_form (HX.out.row (i := 0) rfl) (show 0 < k by omega)
        injection hv with hv _ hcp
        subst hv
        subst hcp
        obtain ⟨r, hr⟩ : ∃ r, rs[a]? = some r := ⟨_, List.getElem?_eq_getElem (by have := HRL.out; omega)⟩
        have HR := Lib.hid hr
        have HRE : Hid (∀ z, Below w.heap.size w z → r.En z) := Lib.hid fun z hz => HSR.out.en r (List.mem_of_getElem? hr) z hz
        have HMA : Hid (m[a]? = some r.e) := Lib.hid (HSR.out.at_ hr)
        obtain ⟨cv, hcv⟩ : ∃ z, z = cmpE r.e e := ⟨_, rfl⟩
        have HCV := Lib.hid hcv.symm
        have HIF : Hid (cv < 0 ↔ a < N) := Lib.hid (by
          have h := tw_iff (p := fun x => decide (cmpE x e < 0)) HMA.out (by have := HN.out; unfold insN at this; omega)
          rw [hcv, HN.out]
          simpa [insN] using h)
        have j1 : (0 : Int) ≤ (a : Int) := by omega
        have j2 : (a : Int) < (k : Int) := by omega
        clear hr hcv
        by_cases haN2 : a < N
        case pos =>
          have hcv0 : cv < 0 := HIF.out.2 haN2
          have hdc : decide (cv < 0) = true := decide_eq_true hcv0
          go_wp2_with fail
          refine lt_start [] (by kernel_rfl) ?_
          intro xd hd
          refine ⟨fun z => OW w [rowO 37 7 (.slice (some ⟨mg, 0, none⟩) k mc) k (rs.flatMap ER.cells)] z, ?_⟩
          have HS := Lib.hid (HX.out.later hd)
          refine lt_pure 0 rfl (by kernel_rfl) (by kernel_rfl) (by kernel_rfl) (by kernel_rfl) (fun _ _ _ h => h) (v := ?_) (yi_run rfl (fun w => ?_)) (fun _ => HS.out) ?_
          rotate_left
          · first | (go_simp; done) | (go_simp; with_reducible rfl)
          simp only [Act.put, List.setIfInBounds_toArray, List.set_cons_zero, List.set_cons_succ]
          refine lt_pure 1 rfl (by kernel_rfl) (by kernel_rfl) (by kernel_rfl) (by kernel_rfl) (fun _ _ _ h => h) (v := ?_) (yi_run rfl (fun w => ?_)) (fun _ => HS.out) ?_
          rotate_left
          · first | (go_simp; done) | (go_simp; with_reducible rfl)
          simp only [Act.put, List.setIfInBounds_toArray, List.set_cons_zero, List.set_cons_succ]
          refine lt_pure 2 rfl (by kernel_rfl) (by kernel_rfl) (by kernel_rfl) (by kernel_rfl) (fun _ _ _ h => h) (v := ?_) (yi_run rfl (fun w => ?_)) (fun _ => HS.out) ?_
          rotate_left
          · first | (go_simp; done) | (go_simp; with_reducible rfl)
          simp only [Act.put, List.setIfInBounds_toArray, List.set_cons_zero, List.set_cons_succ]
          refine lt_pure 3 rfl (by kernel_rfl) (by kernel_rfl) (by kernel_rfl) (by kernel_rfl) (fun _ _ _ h => h) (v := ?_) (yi_run rfl (fun w => ?_)) (fun _ => HS.out) ?_
          rotate_left
          · first | (go_simp; done) | (go_simp; with_reducible rfl)
          simp only [Act.put, List.setIfInBounds_toArray, List.set_cons_zero, List.set_cons_succ]
          refine lt_pure 4 rfl (by kernel_rfl) (by kernel_rfl) (by kernel_rfl) (by kernel_rfl) (fun _ _ _ h => h) (v := ?_) (yi_run rfl (fun w => ?_)) (fun _ => HS.out) ?_
          rotate_left
          · first | (go_simp; done) | (go_simp; with_reducible rfl)
          simp only [Act.put, List.setIfInBounds_toArray, List.set_cons_zero, List.set_cons_succ]
          refine lt_pure 5 rfl (by kernel_rfl) (by kernel_rfl) (by kernel_rfl) (by kernel_rfl) (fun _ _ _ h => h) (v := ?_) (yi_run rfl (fun w => ?_)) (fun _ => HS.out) ?_
          rotate_left
          · first | (go_simp; done) | (go_simp; with_reducible rfl)
          simp only [Act.put, List.setIfInBounds_toArray, List.set_cons_zero, List.set_cons_succ]
          refine lt_pure 6 rfl (by kernel_rfl) (by kernel_rfl) (by kernel_rfl) (by kernel_rfl) (fun _ _ _ h => h) (v := ?_) (yi_run rfl (fun w => ?_)) (fun _ => HS.out) ?_
          rotate_left
          · first | (go_simp; done) | (go_simp; with_reducible rfl)
          simp only [Act.put, List.setIfInBounds_toArray, List.set_cons_zero, List.set_cons_succ]
          refine lt_pure 7 rfl (by kernel_rfl) (by kernel_rfl) (by kernel_rfl) (by kernel_rfl) (fun _ _ _ h => h) (v := ?_) (yi_run rfl (fun w => ?_)) (fun _ => HS.out) ?_
          rotate_left
          · first | (go_simp; done) | (go_simp; with_reducible rfl)
          simp only [Act.put, List.setIfInBounds_toArray, List.set_cons_zero, List.set_cons_succ]
          refine lt_take 8 [13, 14, 15] rfl (by kernel_rfl) (by kernel_rfl) (by kernel_rfl) (by kernel_rfl) (by kernel_rfl) (fun _ _ _ h => h) (yi_rowO rfl rfl rfl (fun w hS => OW.rowRange hS (i := 0) rfl HR.out) ent_row5) HS.out ?_
          simp only [Act.put, List.setIfInBounds_toArray, List.set_cons_zero, List.set_cons_succ]
          refine lt_pure 9 rfl (by kernel_rfl) (by kernel_rfl) (by kernel_rfl) (by kernel_rfl) (fun _ _ _ h => h) (v := ?_) (yi_run rfl (fun w => ?_)) (fun _ => HS.out) ?_
          rotate_left
          · first | (go_simp; done) | (go_simp; with_reducible rfl)
          simp only [Act.put, List.setIfInBounds_toArray, List.set_cons_zero, List.set_cons_succ]
          refine lt_pure 10 rfl (by kernel_rfl) (by kernel_rfl) (by kernel_rfl) (by kernel_rfl) (fun _ _ _ h => h) (v := ?_) (yi_run rfl (fun w => ?_)) (fun _ => HS.out) ?_
          rotate_left
          · first | (go_simp; done) | (go_simp; with_reducible rfl)
          simp only [Act.put, List.setIfInBounds_toArray, List.set_cons_zero, List.set_cons_succ]
          refine lt_pure 11 rfl (by kernel_rfl) (by kernel_rfl) (by kernel_rfl) (by kernel_rfl) (fun _ _ _ h => h) (v := ?_) (yi_run rfl (fun w => ?_)) (fun _ => HS.out) ?_
          rotate_left
          · first | (go_simp; done) | (go_simp; with_reducible rfl)
          simp only [Act.put, List.setIfInBounds_toArray, List.set_cons_zero, List.set_cons_succ]
          refine lt_take 12 [13, 14, 15] rfl (by kernel_rfl) (by kernel_rfl) (by kernel_rfl) (by kernel_rfl) (by kernel_rfl) (fun _ _ _ h => h) (yi_rowO rfl rfl rfl (fun w hS => HRG.out _ (OW.up hS)) ent_row5) HS.out ?_
          simp only [Act.put, List.setIfInBounds_toArray, List.set_cons_zero, List.set_cons_succ]
          refine lt_call 13 rfl (by kernel_rfl) rfl rfl ⟨_, Tryd.func43, by decide, by kernel_rfl⟩ [entV r.A r.e.row.length r.c r.B r.e.qual.length r.d r.D r.e.val.length r.q r.e, entV Ar e.row.length ec B e.qual.length d D e.val.length q e] rfl ?_
          refine (rcompare_any r.e e r.A _ r.c r.B _ r.d r.D _ r.q Ar _ ec B _ d D _ q _ (HRE.out _ HS.out.up) (HEN.out _ HS.out.up)).mono ?_
          rw [HCV.out]
          rintro rr z9 ⟨rfl, hb⟩
          replace HS := Lib.hid (HS.out.later hb)
          clear hb
          refine ⟨_, rfl, fun _ => HS.out, ?_⟩
          simp only [Act.put, List.setIfInBounds_toArray, List.set_cons_zero, List.set_cons_succ]
          refine lt_pure 14 rfl (by kernel_rfl) (by kernel_rfl) (by kernel_rfl) (by kernel_rfl) (fun _ _ _ h => h) (v := ?_) (yi_run rfl (fun w => ?_)) (fun _ => HS.out) ?_
          rotate_left
          · first | (go_simp; done) | (go_simp; with_reducible rfl)
          simp only [Act.put, List.setIfInBounds_toArray, List.set_cons_zero, List.set_cons_succ]
          refine lt_pure 15 rfl (by kernel_rfl) (by kernel_rfl) (by kernel_rfl) (by kernel_rfl) (fun _ _ _ h => h) (v := ?_) (yi_run rfl (fun w => ?_)) (fun _ => HS.out) ?_
          rotate_left
          · first | (go_simp; done) | (go_simp; with_reducible rfl)
          simp only [Act.put, List.setIfInBounds_toArray, List.set_cons_zero, List.set_cons_succ]
          refine lt_done (by kernel_rfl) ?_
          have HS9 := HS
          clear HS
          have HX2 := Lib.hid HS9.out
          clear HS9 HX
          go_wp2_with fail
          go_roundw
          case rel => exact ⟨a + 1, by omega, by go_num, HX2⟩
          case measure => simp [intOf]; omega
        have hcv0 : ¬ cv < 0 := fun h => haN2 (HIF.out.1 h)
        have hdc : decide (cv < 0) = false := decide_eq_false hcv0
        have HAN : Hid (a = N) := Lib.hid (by omega)
        go_wp2_with fail
        refine lt_start [] (by kernel_rfl) ?_
        intro xd hd
        refine ⟨fun z => OW w [rowO 37 7 (.slice (some ⟨mg, 0, none⟩) k mc) k (rs.flatMap ER.cells)] z, ?_⟩
        have HS := Lib.hid (HX.out.later hd)
        refine lt_pure 0 rfl (by kernel_rfl) (by kernel_rfl) (by kernel_rfl) (by kernel_rfl) (fun _ _ _ h => h) (v := ?_) (yi_run rfl (fun w => ?_)) (fun _ => HS.out) ?_
        rotate_left
        · first | (go_simp; done) | (go_simp; with_reducible rfl)
        simp only [Act.put, List.setIfInBounds_toArray, List.set_cons_zero, List.set_cons_succ]
        refine lt_pure 1 rfl (by kernel_rfl) (by kernel_rfl) (by kernel_rfl) (by kernel_rfl) (fun _ _ _ h => h) (v := ?_) (yi_run rfl (fun w => ?_)) (fun _ => HS.out) ?_
        rotate_left
        · first | (go_simp; done) | (go_simp; with_reducible rfl)
        simp only [Act.put, List.setIfInBounds_toArray, List.set_cons_zero, List.set_cons_succ]
        refine lt_pure 2 rfl (by kernel_rfl) (by kernel_rfl) (by kernel_rfl) (by kernel_rfl) (fun _ _ _ h => h) (v := ?_) (yi_run rfl (fun w => ?_)) (fun _ => HS.out) ?_
        rotate_left
        · first | (go_simp; done) | (go_simp; with_reducible rfl)
        simp only [Act.put, List.setIfInBounds_toArray, List.set_cons_zero, List.set_cons_succ]
        refine lt_pure 3 rfl (by kernel_rfl) (by kernel_rfl) (by kernel_rfl) (by kernel_rfl) (fun _ _ _ h => h) (v := ?_) (yi_run rfl (fun w => ?_)) (fun _ => HS.out) ?_
        rotate_left
        · first | (go_simp; done) | (go_simp; with_reducible rfl)
        simp only [Act.put, List.setIfInBounds_toArray, List.set_cons_zero, List.set_cons_succ]
        refine lt_pure 4 rfl (by kernel_rfl) (by kernel_rfl) (by kernel_rfl) (by kernel_rfl) (fun _ _ _ h => h) (v := ?_) (yi_run rfl (fun w => ?_)) (fun _ => HS.out) ?_
        rotate_left
        · first | (go_simp; done) | (go_simp; with_reducible rfl)
        simp only [Act.put, List.setIfInBounds_toArray, List.set_cons_zero, List.set_cons_succ]
        refine lt_pure 5 rfl (by kernel_rfl) (by kernel_rfl) (by kernel_rfl) (by kernel_rfl) (fun _ _ _ h => h) (v := ?_) (yi_run rfl (fun w => ?_)) (fun _ => HS.out) ?_
        rotate_left
        · first | (go_simp; done) | (go_simp; with_reducible rfl)
        simp only [Act.put, List.setIfInBounds_toArray, List.set_cons_zero, List.set_cons_succ]
        refine lt_pure 6 rfl (by kernel_rfl) (by kernel_rfl) (by kernel_rfl) (by kernel_rfl) (fun _ _ _ h => h) (v := ?_) (yi_run rfl (fun w => ?_)) (fun _ => HS.out) ?_
        rotate_left
        · first | (go_simp; done) | (go_simp; with_reducible rfl)
        simp only [Act.put, List.setIfInBounds_toArray, List.set_cons_zero, List.set_cons_succ]
        refine lt_pure 7 rfl (by kernel_rfl) (by kernel_rfl) (by kernel_rfl) (by kernel_rfl) (fun _ _ _ h => h) (v := ?_) (yi_run rfl (fun w => ?_)) (fun _ => HS.out) ?_
        rotate_left
        · first | (go_simp; done) | (go_simp; with_reducible rfl)
        simp only [Act.put, List.setIfInBounds_toArray, List.set_cons_zero, List.set_cons_succ]
        refine lt_take 8 [13, 14, 15] rfl (by kernel_rfl) (by kernel_rfl) (by kernel_rfl) (by kernel_rfl) (by kernel_rfl) (fun _ _ _ h => h) (yi_rowO rfl rfl rfl (fun w hS => OW.rowRange hS (i := 0) rfl HR.out) ent_row5) HS.out ?_
        simp only [Act.put, List.setIfInBounds_toArray, List.set_cons_zero, List.set_cons_succ]
        refine lt_pure 9 rfl (by kernel_rfl) (by kernel_rfl) (by kernel_rfl) (by kernel_rfl) (fun _ _ _ h => h) (v := ?_) (yi_run rfl (fun w => ?_)) (fun _ => HS.out) ?_
        rotate_left
        · first | (go_simp; done) | (go_simp; with_reducible rfl)
        simp only [Act.put, List.setIfInBounds_toArray, List.set_cons_zero, List.set_cons_succ]
        refine lt_pure 10 rfl (by kernel_rfl) (by kernel_rfl) (by kernel_rfl) (by kernel_rfl) (fun _ _ _ h => h) (v := ?_) (yi_run rfl (fun w => ?_)) (fun _ => HS.out) ?_
        rotate_left
        · first | (go_simp; done) | (go_simp; with_reducible rfl)
        simp only [Act.put, List.setIfInBounds_toArray, List.set_cons_zero, List.set_cons_succ]
        refine lt_pure 11 rfl (by kernel_rfl) (by kernel_rfl) (by kernel_rfl) (by kernel_rfl) (fun _ _ _ h => h) (v := ?_) (yi_run rfl (fun w => ?_)) (fun _ => HS.out) ?_
        rotate_left
        · first | (go_simp; done) | (go_simp; with_reducible rfl)
        simp only [Act.put, List.setIfInBounds_toArray, List.set_cons_zero, List.set_cons_succ]
        refine lt_take 12 [13, 14, 15] rfl (by kernel_rfl) (by kernel_rfl) (by kernel_rfl) (by kernel_rfl) (by kernel_rfl) (fun _ _ _ h => h) (yi_rowO rfl rfl rfl (fun w hS => HRG.out _ (OW.up hS)) ent_row5) HS.out ?_
        simp only [Act.put, List.setIfInBounds_toArray, List.set_cons_zero, List.set_cons_succ]
        refine lt_call 13 rfl (by kernel_rfl) rfl rfl ⟨_, Tryd.func43, by decide, by kernel_rfl⟩ [entV r.A r.e.row.length r.c r.B r.e.qual.length r.d r.D r.e.val.length r.q r.e, entV Ar e.row.length ec B e.qual.length d D e.val.length q e] rfl ?_
        refine (rcompare_any r.e e r.A _ r.c r.B _ r.d r.D _ r.q Ar _ ec B _ d D _ q _ (HRE.out _ HS.out.up) (HEN.out _ HS.out.up)).mono ?_
        rw [HCV.out]
        rintro rr z9 ⟨rfl, hb⟩
        replace HS := Lib.hid (HS.out.later hb)
        clear hb
        refine ⟨_, rfl, fun _ => HS.out, ?_⟩
        simp only [Act.put, List.setIfInBounds_toArray, List.set_cons_zero, List.set_cons_succ]
        refine lt_pure 14 rfl (by kernel_rfl) (by kernel_rfl) (by kernel_rfl) (by kernel_rfl) (fun _ _ _ h => h) (v := ?_) (yi_run rfl (fun w => ?_)) (fun _ => HS.out) ?_
        rotate_left
        · first | (go_simp; done) | (go_simp; with_reducible rfl)
        simp only [Act.put, List.setIfInBounds_toArray, List.set_cons_zero, List.set_cons_succ]
        refine lt_pure 15 rfl (by kernel_rfl) (by kernel_rfl) (by kernel_rfl) (by kernel_rfl) (fun _ _ _ h => h) (v := ?_) (yi_run rfl (fun w => ?_)) (fun _ => HS.out) ?_
        rotate_left
        · first | (go_simp; done) | (go_simp; with_reducible rfl)
        simp only [Act.put, List.setIfInBounds_toArray, List.set_cons_zero, List.set_cons_succ]
        refine lt_done (by kernel_rfl) ?_
        have HS9 := HS
        clear HS
        have HX2 := Lib.hid HS9.out
        clear HS9 HX
        go_wp2_with fail
        by_cases hc0 : cv = 0
        case pos =>
          have hde : (cv == 0) = true := by rw [hc0]; rfl
          have HIN : Hid (insE m e = m) := Lib.hid (by
            unfold insE
            rw [if_pos]
            unfold hitB
            rw [← HN.out, ← HAN.out, HMA.out]
            show (cmpE r.e e == 0) = true
            rw [HCV.out]; exact hde)
          clear hc0 hcv0
          refine lt_start [] (by kernel_rfl) ?_
          intro xd hd
          refine ⟨fun z => OW w [rowO 37 7 (.slice (some ⟨mg, 0, none⟩) k mc) k (rs.flatMap ER.cells)] z, ?_⟩
          have HS := Lib.hid (HX2.out.later hd)
          refine lt_pure 0 rfl (by kernel_rfl) (by kernel_rfl) (by kernel_rfl) (by kernel_rfl) (fun _ _ _ h => h) (v := ?_) (yi_run rfl (fun w => ?_)) (fun _ => HS.out) ?_
          rotate_left
          · first | (go_simp; done) | (go_simp; with_reducible rfl)
          simp only [Act.put, List.setIfInBounds_toArray, List.set_cons_zero, List.set_cons_succ]
          refine lt_pure 1 rfl (by kernel_rfl) (by kernel_rfl) (by kernel_rfl) (by kernel_rfl) (fun _ _ _ h => h) (v := ?_) (yi_run rfl (fun w => ?_)) (fun _ => HS.out) ?_
          rotate_left
          · first | (go_simp; done) | (go_simp; with_reducible rfl)
          simp only [Act.put, List.setIfInBounds_toArray, List.set_cons_zero, List.set_cons_succ]
          refine lt_pure 2 rfl (by kernel_rfl) (by kernel_rfl) (by kernel_rfl) (by kernel_rfl) (fun _ _ _ h => h) (v := ?_) (yi_run rfl (fun w => ?_)) (fun _ => HS.out) ?_
          rotate_left
          · first | (go_simp; done) | (go_simp; with_reducible rfl)
          simp only [Act.put, List.setIfInBounds_toArray, List.set_cons_zero, List.set_cons_succ]
          refine lt_pure 3 rfl (by kernel_rfl) (by kernel_rfl) (by kernel_rfl) (by kernel_rfl) (fun _ _ _ h => h) (v := ?_) (yi_run rfl (fun w => ?_)) (fun _ => HS.out) ?_
          rotate_left
          · first | (go_simp; done) | (go_simp; with_reducible rfl)
          simp only [Act.put, List.setIfInBounds_toArray, List.set_cons_zero, List.set_cons_succ]
          refine lt_pure 4 rfl (by kernel_rfl) (by kernel_rfl) (by kernel_rfl) (by kernel_rfl) (fun _ _ _ h => h) (v := ?_) (yi_run rfl (fun w => ?_)) (fun _ => HS.out) ?_
          rotate_left
          · first | (go_simp; done) | (go_simp; with_reducible rfl)
          simp only [Act.put, List.setIfInBounds_toArray, List.set_cons_zero, List.set_cons_succ]
          refine lt_pure 5 rfl (by kernel_rfl) (by kernel_rfl) (by kernel_rfl) (by kernel_rfl) (fun _ _ _ h => h) (v := ?_) (yi_run rfl (fun w => ?_)) (fun _ => HS.out) ?_
          rotate_left
          · first | (go_simp; done) | (go_simp; with_reducible rfl)
          simp only [Act.put, List.setIfInBounds_toArray, List.set_cons_zero, List.set_cons_succ]
          refine lt_pure 6 rfl (by kernel_rfl) (by kernel_rfl) (by kernel_rfl) (by kernel_rfl) (fun _ _ _ h => h) (v := ?_) (yi_run rfl (fun w => ?_)) (fun _ => HS.out) ?_
          rotate_left
          · first | (go_simp; done) | (go_simp; with_reducible rfl)
          simp only [Act.put, List.setIfInBounds_toArray, List.set_cons_zero, List.set_cons_succ]
          refine lt_pure 7 rfl (by kernel_rfl) (by kernel_rfl) (by kernel_rfl) (by kernel_rfl) (fun _ _ _ h => h) (v := ?_) (yi_run rfl (fun w => ?_)) (fun _ => HS.out) ?_
          rotate_left
          · first | (go_simp; done) | (go_simp; with_reducible rfl)
          simp only [Act.put, List.setIfInBounds_toArray, List.set_cons_zero, List.set_cons_succ]
          refine lt_take 8 [13, 14, 15] rfl (by kernel_rfl) (by kernel_rfl) (by kernel_rfl) (by kernel_rfl) (by kernel_rfl) (fun _ _ _ h => h) (yi_rowO rfl rfl rfl (fun w hS => OW.rowRange hS (i := 0) rfl HR.out) ent_row5) HS.out ?_
          simp only [Act.put, List.setIfInBounds_toArray, List.set_cons_zero, List.set_cons_succ]
          refine lt_pure 9 rfl (by kernel_rfl) (by kernel_rfl) (by kernel_rfl) (by kernel_rfl) (fun _ _ _ h => h) (v := ?_) (yi_run rfl (fun w => ?_)) (fun _ => HS.out) ?_
          rotate_left
          · first | (go_simp; done) | (go_simp; with_reducible rfl)
          simp only [Act.put, List.setIfInBounds_toArray, List.set_cons_zero, List.set_cons_succ]
          refine lt_pure 10 rfl (by kernel_rfl) (by kernel_rfl) (by kernel_rfl) (by kernel_rfl) (fun _ _ _ h => h) (v := ?_) (yi_run rfl (fun w => ?_)) (fun _ => HS.out) ?_
          rotate_left
          · first | (go_simp; done) | (go_simp; with_reducible rfl)
          simp only [Act.put, List.setIfInBounds_toArray, List.set_cons_zero, List.set_cons_succ]
          refine lt_pure 11 rfl (by kernel_rfl) (by kernel_rfl) (by kernel_rfl) (by kernel_rfl) (fun _ _ _ h => h) (v := ?_) (yi_run rfl (fun w => ?_)) (fun _ => HS.out) ?_
          rotate_left
          · first | (go_simp; done) | (go_simp; with_reducible rfl)
          simp only [Act.put, List.setIfInBounds_toArray, List.set_cons_zero, List.set_cons_succ]
          refine lt_take 12 [13, 14, 15] rfl (by kernel_rfl) (by kernel_rfl) (by kernel_rfl) (by kernel_rfl) (by kernel_rfl) (fun _ _ _ h => h) (yi_rowO rfl rfl rfl (fun w hS => HRG.out _ (OW.up hS)) ent_row5) HS.out ?_
          simp only [Act.put, List.setIfInBounds_toArray, List.set_cons_zero, List.set_cons_succ]
          refine lt_call 13 rfl (by kernel_rfl) rfl rfl ⟨_, Tryd.func43, by decide, by kernel_rfl⟩ [entV r.A r.e.row.length r.c r.B r.e.qual.length r.d r.D r.e.val.length r.q r.e, entV Ar e.row.length ec B e.qual.length d D e.val.length q e] rfl ?_
          refine (rcompare_any r.e e r.A _ r.c r.B _ r.d r.D _ r.q Ar _ ec B _ d D _ q _ (HRE.out _ HS.out.up) (HEN.out _ HS.out.up)).mono ?_
          rw [HCV.out]
          rintro rr z9 ⟨rfl, hb⟩
          replace HS := Lib.hid (HS.out.later hb)
          clear hb
          refine ⟨_, rfl, fun _ => HS.out, ?_⟩
          simp only [Act.put, List.setIfInBounds_toArray, List.set_cons_zero, List.set_cons_succ]
          refine lt_pure 14 rfl (by kernel_rfl) (by kernel_rfl) (by kernel_rfl) (by kernel_rfl) (fun _ _ _ h => h) (v := ?_) (yi_run rfl (fun w => ?_)) (fun _ => HS.out) ?_
          rotate_left
          · first | (go_simp; done) | (go_simp; with_reducible rfl)
          simp only [Act.put, List.setIfInBounds_toArray, List.set_cons_zero, List.set_cons_succ]
          refine lt_pure 15 rfl (by kernel_rfl) (by kernel_rfl) (by kernel_rfl) (by kernel_rfl) (fun _ _ _ h => h) (v := ?_) (yi_run rfl (fun w => ?_)) (fun _ => HS.out) ?_
          rotate_left
          · first | (go_simp; done) | (go_simp; with_reducible rfl)
          simp only [Act.put, List.setIfInBounds_toArray, List.set_cons_zero, List.set_cons_succ]
          refine lt_done (by kernel_rfl) ?_
          have HS9 := HS
          clear HS
          have HX3 := Lib.hid HS9.out
          clear HS9 HX2
          go_wp2_with fail
          go_roundw
          case rel => exact ⟨i + 1, k, some ⟨mg, 0, none⟩, mc, rs, by omega, by omega, by omega, by go_num, rfl, HRL, Lib.hid (by rw [HTK.out, HST.out, HIN.out]; exact HSR.out), HX3⟩
          case measure => simp [intOf]; omega
        have hde : (cv == 0) = false := beq_eq_false_iff_ne.2 hc0
        have HIN : Hid (insE m e = m.take N ++ e :: m.drop N) := Lib.hid (by
          unfold insE
          rw [if_neg, ← HN.out]
          intro h
          unfold hitB at h
          rw [← HN.out, ← HAN.out, HMA.out] at h
          have h : (cmpE r.e e == 0) = true := h
          rw [HCV.out, hde] at h; cases h)
        clear hc0 hcv0
        refine lt_start [] (by kernel_rfl) ?_
        intro xd hd
        refine ⟨fun z => OW w [rowO 37 7 (.slice (some ⟨mg, 0, none⟩) k mc) k (rs.flatMap ER.cells)] z, ?_⟩
        have HS := Lib.hid (HX2.out.later hd)
        refine lt_pure 0 rfl (by kernel_rfl) (by kernel_rfl) (by kernel_rfl) (by kernel_rfl) (fun _ _ _ h => h) (v := ?_) (yi_run rfl (fun w => ?_)) (fun _ => HS.out) ?_
        rotate_left
        · first | (go_simp; done) | (go_simp; with_reducible rfl)
        simp only [Act.put, List.setIfInBounds_toArray, List.set_cons_zero, List.set_cons_succ]
        refine lt_pure 1 rfl (by kernel_rfl) (by kernel_rfl) (by kernel_rfl) (by kernel_rfl) (fun _ _ _ h => h) (v := ?_) (yi_run rfl (fun w => ?_)) (fun _ => HS.out) ?_
        rotate_left
        · first | (go_simp; done) | (go_simp; with_reducible rfl)
        simp only [Act.put, List.setIfInBounds_toArray, List.set_cons_zero, List.set_cons_succ]
        refine lt_pure 2 rfl (by kernel_rfl) (by kernel_rfl) (by kernel_rfl) (by kernel_rfl) (fun _ _ _ h => h) (v := ?_) (yi_run rfl (fun w => ?_)) (fun _ => HS.out) ?_
        rotate_left
        · first | (go_simp; done) | (go_simp; with_reducible rfl)
        simp only [Act.put, List.setIfInBounds_toArray, List.set_cons_zero, List.set_cons_succ]
        refine lt_pure 3 rfl (by kernel_rfl) (by kernel_rfl) (by kernel_rfl) (by kernel_rfl) (fun _ _ _ h => h) (v := ?_) (yi_run rfl (fun w => ?_)) (fun _ => HS.out) ?_
        rotate_left
        · first | (go_simp; done) | (go_simp; with_reducible rfl)
        simp only [Act.put, List.setIfInBounds_toArray, List.set_cons_zero, List.set_cons_succ]
        refine lt_pure 4 rfl (by kernel_rfl) (by kernel_rfl) (by kernel_rfl) (by kernel_rfl) (fun _ _ _ h => h) (v := ?_) (yi_run rfl (fun w => ?_)) (fun _ => HS.out) ?_
        rotate_left
        · first | (go_simp; done) | (go_simp; with_reducible rfl)
        simp only [Act.put, List.setIfInBounds_toArray, List.set_cons_zero, List.set_cons_succ]
        refine lt_pure 5 rfl (by kernel_rfl) (by kernel_rfl) (by kernel_rfl) (by kernel_rfl) (fun _ _ _ h => h) (v := ?_) (yi_run rfl (fun w => ?_)) (fun _ => HS.out) ?_
        rotate_left
        · first | (go_simp; done) | (go_simp; with_reducible rfl)
        simp only [Act.put, List.setIfInBounds_toArray, List.set_cons_zero, List.set_cons_succ]
        refine lt_pure 6 rfl (by kernel_rfl) (by kernel_rfl) (by kernel_rfl) (by kernel_rfl) (fun _ _ _ h => h) (v := ?_) (yi_run rfl (fun w => ?_)) (fun _ => HS.out) ?_
        rotate_left
        · first | (go_simp; done) | (go_simp; with_reducible rfl)
        simp only [Act.put, List.setIfInBounds_toArray, List.set_cons_zero, List.set_cons_succ]
        refine lt_pure 7 rfl (by kernel_rfl) (by kernel_rfl) (by kernel_rfl) (by kernel_rfl) (fun _ _ _ h => h) (v := ?_) (yi_run rfl (fun w => ?_)) (fun _ => HS.out) ?_
        rotate_left
        · first | (go_simp; done) | (go_simp; with_reducible rfl)
        simp only [Act.put, List.setIfInBounds_toArray, List.set_cons_zero, List.set_cons_succ]
        refine lt_take 8 [13, 14, 15] rfl (by kernel_rfl) (by kernel_rfl) (by kernel_rfl) (by kernel_rfl) (by kernel_rfl) (fun _ _ _ h => h) (yi_rowO rfl rfl rfl (fun w hS => OW.rowRange hS (i := 0) rfl HR.out) ent_row5) HS.out ?_
        simp only [Act.put, List.setIfInBounds_toArray, List.set_cons_zero, List.set_cons_succ]
        refine lt_pure 9 rfl (by kernel_rfl) (by kernel_rfl) (by kernel_rfl) (by kernel_rfl) (fun _ _ _ h => h) (v := ?_) (yi_run rfl (fun w => ?_)) (fun _ => HS.out) ?_
        rotate_left
        · first | (go_simp; done) | (go_simp; with_reducible rfl)
        simp only [Act.put, List.setIfInBounds_toArray, List.set_cons_zero, List.set_cons_succ]
        refine lt_pure 10 rfl (by kernel_rfl) (by kernel_rfl) (by kernel_rfl) (by kernel_rfl) (fun _ _ _ h => h) (v := ?_) (yi_run rfl (fun w => ?_)) (fun _ => HS.out) ?_
        rotate_left
        · first | (go_simp; done) | (go_simp; with_reducible rfl)
        simp only [Act.put, List.setIfInBounds_toArray, List.set_cons_zero, List.set_cons_succ]
        refine lt_pure 11 rfl (by kernel_rfl) (by kernel_rfl) (by kernel_rfl) (by kernel_rfl) (fun _ _ _ h => h) (v := ?_) (yi_run rfl (fun w => ?_)) (fun _ => HS.out) ?_
        rotate_left
        · first | (go_simp; done) | (go_simp; with_reducible rfl)
        simp only [Act.put, List.setIfInBounds_toArray, List.set_cons_zero, List.set_cons_succ]
        refine lt_take 12 [13, 14, 15] rfl (by kernel_rfl) (by kernel_rfl) (by kernel_rfl) (by kernel_rfl) (by kernel_rfl) (fun _ _ _ h => h) (yi_rowO rfl rfl rfl (fun w hS => HRG.out _ (OW.up hS)) ent_row5) HS.out ?_
        simp only [Act.put, List.setIfInBounds_toArray, List.set_cons_zero, List.set_cons_succ]
        refine lt_call 13 rfl (by kernel_rfl) rfl rfl ⟨_, Tryd.func43, by decide, by kernel_rfl⟩ [entV r.A r.e.row.length r.c r.B r.e.qual.length r.d r.D r.e.val.length r.q r.e, entV Ar e.row.length ec B e.qual.length d D e.val.length q e] rfl ?_
        refine (rcompare_any r.e e r.A _ r.c r.B _ r.d r.D _ r.q Ar _ ec B _ d D _ q _ (HRE.out _ HS.out.up) (HEN.out _ HS.out.up)).mono ?_
        rw [HCV.out]
        rintro rr z9 ⟨rfl, hb⟩
        replace HS := Lib.hid (HS.out.later hb)
        clear hb
        refine ⟨_, rfl, fun _ => HS.out, ?_⟩
        simp only [Act.put, List.setIfInBounds_toArray, List.set_cons_zero, List.set_cons_succ]
        refine lt_pure 14 rfl (by kernel_rfl) (by kernel_rfl) (by kernel_rfl) (by kernel_rfl) (fun _ _ _ h => h) (v := ?_) (yi_run rfl (fun w => ?_)) (fun _ => HS.out) ?_
        rotate_left
        · first | (go_simp; done) | (go_simp; with_reducible rfl)
        simp only [Act.put, List.setIfInBounds_toArray, List.set_cons_zero, List.set_cons_succ]
        refine lt_pure 15 rfl (by kernel_rfl) (by kernel_rfl) (by kernel_rfl) (by kernel_rfl) (fun _ _ _ h => h) (v := ?_) (yi_run rfl (fun w => ?_)) (fun _ => HS.out) ?_
        rotate_left
        · first | (go_simp; done) | (go_simp; with_reducible rfl)
        simp only [Act.put, List.setIfInBounds_toArray, List.set_cons_zero, List.set_cons_succ]
        refine lt_done (by kernel_rfl) ?_
        have HS9 := HS
        clear HS
        have HX3 := Lib.hid HS9.out
        clear HS9 HX2
        have HIA : Hid (insE m e = m.take a ++ e :: m.drop a) := Lib.hid (by rw [HIN.out, HAN.out])
        have hkmc : k ≤ mc := by
          rcases (HX3.out.row (i := 0) rfl).2 with ⟨h1, h2⟩ | ⟨g, cap, _, h1, _, _, h2, _⟩
          · injection h1 with h1; cases h1
          · injection h1 with _ _ h4; omega
        have k6 : mc ≠ a := by omega
        have k7 : ¬ a = mc := by omega
        have HN0 := Lib.hid (HX3.out.nilRow 37 7)
        have tk1 : True := trivial
        have tk2 : True := trivial
        go_wp2_with (first
          | (at_builtin; have _t := tk1; go_must (refine wl_append rfl (.tmp 57) (.tmp 60) rfl Tryd.entsS HN0.out 1 rfl rfl _ (some ⟨mg, 0, none⟩) a mc ((rs.flatMap ER.cells).take (a * 7)) rfl ((Reads.own (HN0.out.row (i := 0) rfl)).take (by omega)) (fun u hu => cells_one (List.mem_of_mem_take hu)) (by unfold maxLen; omega) (by omega) ?_); intro A1 c1 z1 hz _; rw [Nat.zero_add] at hz; rw [Nat.zero_add]; have HX4 : Hid (OW w [rowO 37 7 (.slice (some ⟨mg, 0, none⟩) k mc) k (rs.flatMap ER.cells), rowO 37 7 (.slice A1 a c1) a ((rs.take a).flatMap ER.cells)] z1) := Lib.hid (by rw [← flat7_take]; exact hz); clear hz HN0 HX3 tk1)
          | (refine wpList_load_at rfl 37 (.tmp 65) rfl rfl (HRG.out _ HX4.out.up) ent_row5 ?_)
          | (refine wl_build rfl #[(0, .tmp 66)] rfl #[.slice Ar e.row.length ec, .int .i64 e.fam, .slice B e.qual.length d, .int .i64 e.ts, .int .i64 e.seq, .int .i64 e.kind, .slice D e.val.length q] Tryd.entsS (.agg #[.slice none 0 0, .int .i64 0, .slice none 0 0, .int .i64 0, .int .i64 0, .int .i64 0, .slice none 0 0]) (by kernel_rfl) (by decide) (by decide) (by decide) rfl (by kernel_rfl) HX4.out ?_; intro g5 z5 hz _; have HX5 := Lib.hid hz; clear hz HX4)
          | (at_builtin; have _t := tk2; go_must (refine wl_append rfl (.tmp 62) (.tmp 67) rfl Tryd.entsS HX5.out 1 rfl rfl _ (some ⟨g5, 0, none⟩) 1 1 [.slice Ar e.row.length ec, .int .i64 e.fam, .slice B e.qual.length d, .int .i64 e.ts, .int .i64 e.seq, .int .i64 e.kind, .slice D e.val.length q] rfl (Reads.own (HX5.out.row (i := 2) rfl)) (by simp [Value.oneCell']) (by unfold maxLen; omega) (by omega) ?_); intro A6 c6 z6 hz _; have HX6 := Lib.hid (hz.erase 2); clear hz HX5 tk2)
          | (at_builtin; go_must (refine wl_append rfl (.tmp 69) (.tmp 72) rfl Tryd.entsS HX6.out 1 rfl rfl _ (some ⟨mg, a * 7, none⟩) (k - a) (mc - a) ((rs.flatMap ER.cells).drop (a * 7)) rfl (reads_drop0 (Reads.own (HX6.out.row (i := 0) rfl)) (by omega)) (fun u hu => cells_one (List.mem_of_mem_drop hu)) (by unfold maxLen; omega) (by omega) ?_); intro A7 c7 z7 hz _; have HX7 := Lib.hid (hz.erase 0); clear hz HX6))
        go_roundw
        case rel =>
          have e1 : (rs.take a ++ (⟨Ar, ec, B, d, D, q, e⟩ : ER) :: rs.drop a).flatMap ER.cells = (rs.take a).flatMap ER.cells ++ [.slice Ar e.row.length ec, .int .i64 e.fam, .slice B e.qual.length d, .int .i64 e.ts, .int .i64 e.seq, .int .i64 e.kind, .slice D e.val.length q] ++ ((rs.flatMap ER.cells).drop (a * 7)) := by
            rw [List.flatMap_append, List.flatMap_cons, List.append_assoc]
            rw [flat7_drop]; rfl
          refine ⟨i + 1, a + 1 + (k - a), A7, c7, rs.take a ++ (⟨Ar, ec, B, d, D, q, e⟩ : ER) :: rs.drop a, by omega, by omega, by omega, by go_num, rfl, Lib.hid (by rw [List.length_append, List.length_cons, List.length_take, List.length_drop]; have := HRL.out; omega), Lib.hid ⟨?_, fun r hr z hz => ?_⟩, Lib.hid (by rw [e1]; exact HX7.out)⟩
          · rw [HTK.out, HST.out, HIA.out, List.map_append, List.map_cons, List.map_take, List.map_drop, HSR.out.ents]
          · rcases List.mem_append.1 hr with h1 | h1
            · exact HSR.out.en r (List.mem_of_mem_take h1) z hz
            · rcases List.mem_cons.1 h1 with rfl | h1
              · exact HEN.out z hz
              · exact HSR.out.en r (List.mem_of_mem_drop h1) z hz
        case measure => simp [intOf]; omega
      have hak2 : a = k := by omega
      have HAN : Hid (a = N) := Lib.hid (by omega)
      have HIN : Hid (insE m e = m.take a ++ e :: m.drop a) := Lib.hid (by
        have h9 : m[N]? = none := List.getElem?_eq_none (by have := HML.out; have := HAN.out; omega)
        unfold insE
        rw [if_neg, ← HN.out, HAN.out]
        intro h
        unfold hitB at h
        rw [← HN.out, h9] at h
        cases h)
      subst hak2
      have hda : decide ((a : Int) < (a : Int)) = false := decide_eq_false (by omega)
      have hda2 : ¬ a < a := by omega
      have HIA := HIN
      by_cases hmc : mc = a
      · subst hmc
        go_wp2_with fail
        refine lt_start [] (by kernel_rfl) ?_
        intro xd hd
        refine ⟨fun z => OW w [rowO 37 7 (.slice MA mc mc) mc (rs.flatMap ER.cells)] z, ?_⟩
        have HS := Lib.hid (HX.out.later hd)
        refine lt_pure 0 rfl (by kernel_rfl) (by kernel_rfl) (by kernel_rfl) (by kernel_rfl) (fun _ _ _ h => h) (v := ?_) (yi_run rfl (fun w => ?_)) (fun _ => HS.out) ?_
        rotate_left
        · first | (go_simp; done) | (go_simp; with_reducible rfl)
        simp only [Act.put, List.setIfInBounds_toArray, List.set_cons_zero, List.set_cons_succ]
        refine lt_pure 1 rfl (by kernel_rfl) (by kernel_rfl) (by kernel_rfl) (by kernel_rfl) (fun _ _ _ h => h) (v := ?_) (yi_run rfl (fun w => ?_)) (fun _ => HS.out) ?_
        rotate_left
        · first | (go_simp; done) | (go_simp; with_reducible rfl)
        simp only [Act.put, List.setIfInBounds_toArray, List.set_cons_zero, List.set_cons_succ]
        refine lt_pure 2 rfl (by kernel_rfl) (by kernel_rfl) (by kernel_rfl) (by kernel_rfl) (fun _ _ _ h => h) (v := ?_) (yi_run rfl (fun w => ?_)) (fun _ => HS.out) ?_
        rotate_left
        · first | (go_simp; done) | (go_simp; with_reducible rfl)
        simp only [Act.put, List.setIfInBounds_toArray, List.set_cons_zero, List.set_cons_succ]
        refine lt_pure 3 rfl (by kernel_rfl) (by kernel_rfl) (by kernel_rfl) (by kernel_rfl) (fun _ _ _ h => h) (v := ?_) (yi_run rfl (fun w => ?_)) (fun _ => HS.out) ?_
        rotate_left
        · first | (go_simp; done) | (go_simp; with_reducible rfl)
        simp only [Act.put, List.setIfInBounds_toArray, List.set_cons_zero, List.set_cons_succ]
        refine lt_pure 4 rfl (by kernel_rfl) (by kernel_rfl) (by kernel_rfl) (by kernel_rfl) (fun _ _ _ h => h) (v := ?_) (yi_run rfl (fun w => ?_)) (fun _ => HS.out) ?_
        rotate_left
        · first | (go_simp; done) | (go_simp; with_reducible rfl)
        simp only [Act.put, List.setIfInBounds_toArray, List.set_cons_zero, List.set_cons_succ]
        refine lt_skip 5 rfl (by kernel_rfl) (by kernel_rfl) (by kernel_rfl) (by kernel_rfl) (fun _ _ _ h => h) rfl (fun _ => HS.out) ?_
        simp only [Act.put, List.setIfInBounds_toArray, List.set_cons_zero, List.set_cons_succ]
        refine lt_skip 6 rfl (by kernel_rfl) (by kernel_rfl) (by kernel_rfl) (by kernel_rfl) (fun _ _ _ h => h) rfl (fun _ => HS.out) ?_
        simp only [Act.put, List.setIfInBounds_toArray, List.set_cons_zero, List.set_cons_succ]
        refine lt_skip 7 rfl (by kernel_rfl) (by kernel_rfl) (by kernel_rfl) (by kernel_rfl) (fun _ _ _ h => h) rfl (fun _ => HS.out) ?_
        simp only [Act.put, List.setIfInBounds_toArray, List.set_cons_zero, List.set_cons_succ]
        refine lt_skip 8 rfl (by kernel_rfl) (by kernel_rfl) (by kernel_rfl) (by kernel_rfl) (fun _ _ _ h => h) rfl (fun _ => HS.out) ?_
        simp only [Act.put, List.setIfInBounds_toArray, List.set_cons_zero, List.set_cons_succ]
        refine lt_skip 9 rfl (by kernel_rfl) (by kernel_rfl) (by kernel_rfl) (by kernel_rfl) (fun _ _ _ h => h) rfl (fun _ => HS.out) ?_
        simp only [Act.put, List.setIfInBounds_toArray, List.set_cons_zero, List.set_cons_succ]
        refine lt_skip 10 rfl (by kernel_rfl) (by kernel_rfl) (by kernel_rfl) (by kernel_rfl) (fun _ _ _ h => h) rfl (fun _ => HS.out) ?_
        simp only [Act.put, List.setIfInBounds_toArray, List.set_cons_zero, List.set_cons_succ]
        refine lt_skip 11 rfl (by kernel_rfl) (by kernel_rfl) (by kernel_rfl) (by kernel_rfl) (fun _ _ _ h => h) rfl (fun _ => HS.out) ?_
        simp only [Act.put, List.setIfInBounds_toArray, List.set_cons_zero, List.set_cons_succ]
        refine lt_skip 12 rfl (by kernel_rfl) (by kernel_rfl) (by kernel_rfl) (by kernel_rfl) (fun _ _ _ h => h) rfl (fun _ => HS.out) ?_
        simp only [Act.put, List.setIfInBounds_toArray, List.set_cons_zero, List.set_cons_succ]
        refine lt_skip 13 rfl (by kernel_rfl) (by kernel_rfl) (by kernel_rfl) (by kernel_rfl) (fun _ _ _ h => h) rfl (fun _ => HS.out) ?_
        simp only [Act.put, List.setIfInBounds_toArray, List.set_cons_zero, List.set_cons_succ]
        refine lt_skip 14 rfl (by kernel_rfl) (by kernel_rfl) (by kernel_rfl) (by kernel_rfl) (fun _ _ _ h => h) rfl (fun _ => HS.out) ?_
        simp only [Act.put, List.setIfInBounds_toArray, List.set_cons_zero, List.set_cons_succ]
        refine lt_pure 15 rfl (by kernel_rfl) (by kernel_rfl) (by kernel_rfl) (by kernel_rfl) (fun _ _ _ h => h) (v := ?_) (yi_run rfl (fun w => ?_)) (fun _ => HS.out) ?_
        rotate_left
        · first | (go_simp; done) | (go_simp; with_reducible rfl)
        simp only [Act.put, List.setIfInBounds_toArray, List.set_cons_zero, List.set_cons_succ]
        refine lt_done (by kernel_rfl) ?_
        have HS9 := HS
        clear HS
        have HX2 := Lib.hid HS9.out
        clear HS9 HX
        go_wp2_with fail
        refine lt_start [] (by kernel_rfl) ?_
        intro xd hd
        refine ⟨fun z => OW w [rowO 37 7 (.slice MA mc mc) mc (rs.flatMap ER.cells)] z, ?_⟩
        have HS := Lib.hid (HX2.out.later hd)
        refine lt_pure 0 rfl (by kernel_rfl) (by kernel_rfl) (by kernel_rfl) (by kernel_rfl) (fun _ _ _ h => h) (v := ?_) (yi_run rfl (fun w => ?_)) (fun _ => HS.out) ?_
        rotate_left
        · first | (go_simp; done) | (go_simp; with_reducible rfl)
        simp only [Act.put, List.setIfInBounds_toArray, List.set_cons_zero, List.set_cons_succ]
        refine lt_pure 1 rfl (by kernel_rfl) (by kernel_rfl) (by kernel_rfl) (by kernel_rfl) (fun _ _ _ h => h) (v := ?_) (yi_run rfl (fun w => ?_)) (fun _ => HS.out) ?_
        rotate_left
        · first | (go_simp; done) | (go_simp; with_reducible rfl)
        simp only [Act.put, List.setIfInBounds_toArray, List.set_cons_zero, List.set_cons_succ]
        refine lt_pure 2 rfl (by kernel_rfl) (by kernel_rfl) (by kernel_rfl) (by kernel_rfl) (fun _ _ _ h => h) (v := ?_) (yi_run rfl (fun w => ?_)) (fun _ => HS.out) ?_
        rotate_left
        · first | (go_simp; done) | (go_simp; with_reducible rfl)
        simp only [Act.put, List.setIfInBounds_toArray, List.set_cons_zero, List.set_cons_succ]
        refine lt_pure 3 rfl (by kernel_rfl) (by kernel_rfl) (by kernel_rfl) (by kernel_rfl) (fun _ _ _ h => h) (v := ?_) (yi_run rfl (fun w => ?_)) (fun _ => HS.out) ?_
        rotate_left
        · first | (go_simp; done) | (go_simp; with_reducible rfl)
        simp only [Act.put, List.setIfInBounds_toArray, List.set_cons_zero, List.set_cons_succ]
        refine lt_pure 4 rfl (by kernel_rfl) (by kernel_rfl) (by kernel_rfl) (by kernel_rfl) (fun _ _ _ h => h) (v := ?_) (yi_run rfl (fun w => ?_)) (fun _ => HS.out) ?_
        rotate_left
        · first | (go_simp; done) | (go_simp; with_reducible rfl)
        simp only [Act.put, List.setIfInBounds_toArray, List.set_cons_zero, List.set_cons_succ]
        refine lt_skip 5 rfl (by kernel_rfl) (by kernel_rfl) (by kernel_rfl) (by kernel_rfl) (fun _ _ _ h => h) rfl (fun _ => HS.out) ?_
        simp only [Act.put, List.setIfInBounds_toArray, List.set_cons_zero, List.set_cons_succ]
        refine lt_skip 6 rfl (by kernel_rfl) (by kernel_rfl) (by kernel_rfl) (by kernel_rfl) (fun _ _ _ h => h) rfl (fun _ => HS.out) ?_
        simp only [Act.put, List.setIfInBounds_toArray, List.set_cons_zero, List.set_cons_succ]
        refine lt_skip 7 rfl (by kernel_rfl) (by kernel_rfl) (by kernel_rfl) (by kernel_rfl) (fun _ _ _ h => h) rfl (fun _ => HS.out) ?_
        simp only [Act.put, List.setIfInBounds_toArray, List.set_cons_zero, List.set_cons_succ]
        refine lt_skip 8 rfl (by kernel_rfl) (by kernel_rfl) (by kernel_rfl) (by kernel_rfl) (fun _ _ _ h => h) rfl (fun _ => HS.out) ?_
        simp only [Act.put, List.setIfInBounds_toArray, List.set_cons_zero, List.set_cons_succ]
        refine lt_skip 9 rfl (by kernel_rfl) (by kernel_rfl) (by kernel_rfl) (by kernel_rfl) (fun _ _ _ h => h) rfl (fun _ => HS.out) ?_
        simp only [Act.put, List.setIfInBounds_toArray, List.set_cons_zero, List.set_cons_succ]
        refine lt_skip 10 rfl (by kernel_rfl) (by kernel_rfl) (by kernel_rfl) (by kernel_rfl) (fun _ _ _ h => h) rfl (fun _ => HS.out) ?_
        simp only [Act.put, List.setIfInBounds_toArray, List.set_cons_zero, List.set_cons_succ]
        refine lt_skip 11 rfl (by kernel_rfl) (by kernel_rfl) (by kernel_rfl) (by kernel_rfl) (fun _ _ _ h => h) rfl (fun _ => HS.out) ?_
        simp only [Act.put, List.setIfInBounds_toArray, List.set_cons_zero, List.set_cons_succ]
        refine lt_skip 12 rfl (by kernel_rfl) (by kernel_rfl) (by kernel_rfl) (by kernel_rfl) (fun _ _ _ h => h) rfl (fun _ => HS.out) ?_
        simp only [Act.put, List.setIfInBounds_toArray, List.set_cons_zero, List.set_cons_succ]
        refine lt_skip 13 rfl (by kernel_rfl) (by kernel_rfl) (by kernel_rfl) (by kernel_rfl) (fun _ _ _ h => h) rfl (fun _ => HS.out) ?_
        simp only [Act.put, List.setIfInBounds_toArray, List.set_cons_zero, List.set_cons_succ]
        refine lt_skip 14 rfl (by kernel_rfl) (by kernel_rfl) (by kernel_rfl) (by kernel_rfl) (fun _ _ _ h => h) rfl (fun _ => HS.out) ?_
        simp only [Act.put, List.setIfInBounds_toArray, List.set_cons_zero, List.set_cons_succ]
        refine lt_pure 15 rfl (by kernel_rfl) (by kernel_rfl) (by kernel_rfl) (by kernel_rfl) (fun _ _ _ h => h) (v := ?_) (yi_run rfl (fun w => ?_)) (fun _ => HS.out) ?_
        rotate_left
        · first | (go_simp; done) | (go_simp; with_reducible rfl)
        simp only [Act.put, List.setIfInBounds_toArray, List.set_cons_zero, List.set_cons_succ]
        refine lt_done (by kernel_rfl) ?_
        have HS9 := HS
        clear HS
        have HX3 := Lib.hid HS9.out
        clear HS9 HX2
        have HN0 := Lib.hid (HX3.out.nilRow 37 7)
        have tk1 : True := trivial
        have tk2 : True := trivial
        go_wp2_with (first
          | (at_builtin; have _t := tk1; go_must (refine wl_append rfl (.tmp 57) (.tmp 60) rfl Tryd.entsS HN0.out 1 rfl rfl _ (MA) mc mc ((rs.flatMap ER.cells).take (mc * 7)) rfl ((Reads.own (HN0.out.row (i := 0) rfl)).take (by omega)) (fun u hu => cells_one (List.mem_of_mem_take hu)) (by unfold maxLen; omega) (by omega) ?_); intro A1 c1 z1 hz _; rw [Nat.zero_add] at hz; rw [Nat.zero_add]; have HX4 : Hid (OW w [rowO 37 7 (.slice (MA) mc mc) mc (rs.flatMap ER.cells), rowO 37 7 (.slice A1 mc c1) mc ((rs.take mc).flatMap ER.cells)] z1) := Lib.hid (by rw [← flat7_take]; exact hz); clear hz HN0 HX3 tk1)
          | (refine wpList_load_at rfl 37 (.tmp 65) rfl rfl (HRG.out _ HX4.out.up) ent_row5 ?_)
          | (refine wl_build rfl #[(0, .tmp 66)] rfl #[.slice Ar e.row.length ec, .int .i64 e.fam, .slice B e.qual.length d, .int .i64 e.ts, .int .i64 e.seq, .int .i64 e.kind, .slice D e.val.length q] Tryd.entsS (.agg #[.slice none 0 0, .int .i64 0, .slice none 0 0, .int .i64 0, .int .i64 0, .int .i64 0, .slice none 0 0]) (by kernel_rfl) (by decide) (by decide) (by decide) rfl (by kernel_rfl) HX4.out ?_; intro g5 z5 hz _; have HX5 := Lib.hid hz; clear hz HX4)
          | (at_builtin; have _t := tk2; go_must (refine wl_append rfl (.tmp 62) (.tmp 67) rfl Tryd.entsS HX5.out 1 rfl rfl _ (some ⟨g5, 0, none⟩) 1 1 [.slice Ar e.row.length ec, .int .i64 e.fam, .slice B e.qual.length d, .int .i64 e.ts, .int .i64 e.seq, .int .i64 e.kind, .slice D e.val.length q] rfl (Reads.own (HX5.out.row (i := 2) rfl)) (by simp [Value.oneCell']) (by unfold maxLen; omega) (by omega) ?_); intro A6 c6 z6 hz _; have HX6 := Lib.hid (hz.erase 2); clear hz HX5 tk2)
          | (at_builtin; go_must (refine wl_append rfl (.tmp 69) (.tmp 72) rfl Tryd.entsS HX6.out 1 rfl rfl _ (MA) (0) (0) ([]) rfl (Reads.nil (w := z6) (B := 0) (size := 7)) (by simp) (by unfold maxLen; omega) (by omega) ?_); intro A7 c7 z7 hz _; have HX7 := Lib.hid (hz.erase 0); clear hz HX6))
        go_roundw
        case rel =>
          have e1 : (rs.take mc ++ (⟨Ar, ec, B, d, D, q, e⟩ : ER) :: rs.drop mc).flatMap ER.cells = (rs.take mc).flatMap ER.cells ++ [.slice Ar e.row.length ec, .int .i64 e.fam, .slice B e.qual.length d, .int .i64 e.ts, .int .i64 e.seq, .int .i64 e.kind, .slice D e.val.length q] ++ ([]) := by
            rw [List.flatMap_append, List.flatMap_cons, List.append_assoc]
            rw [List.drop_of_length_le (by have := HRL.out; omega)]; rfl
          refine ⟨i + 1, mc + 1 + (0), A7, c7, rs.take mc ++ (⟨Ar, ec, B, d, D, q, e⟩ : ER) :: rs.drop mc, by omega, by omega, by omega, by go_num, rfl, Lib.hid (by rw [List.length_append, List.length_cons, List.length_take, List.length_drop]; have := HRL.out; omega), Lib.hid ⟨?_, fun r hr z hz => ?_⟩, Lib.hid (by rw [e1]; exact HX7.out)⟩
          · rw [HTK.out, HST.out, HIA.out, List.map_append, List.map_cons, List.map_take, List.map_drop, HSR.out.ents]
          · rcases List.mem_append.1 hr with h1 | h1
            · exact HSR.out.en r (List.mem_of_mem_take h1) z hz
            · rcases List.mem_cons.1 h1 with rfl | h1
              · exact HEN.out z hz
              · exact HSR.out.en r (List.mem_of_mem_drop h1) z hz
        case measure => simp [intOf]; omega
      · obtain ⟨mg, rfl, hmc2⟩ : ∃ mg, MA = some ⟨mg, 0, none⟩ ∧ a < mc := by
          rcases (HX.out.row (i := 0) rfl).2 with ⟨h1, h2⟩ | ⟨g, cap, _, h1, _, _, h2, _⟩
          · injection h1 with h1 h3 h4; exact absurd (h4.trans h2.symm) hmc
          · injection h1 with h1 h3 h4; exact ⟨g, h1, by omega⟩
        go_wp2_with fail
        refine lt_start [] (by kernel_rfl) ?_
        intro xd hd
        refine ⟨fun z => OW w [rowO 37 7 (.slice (some ⟨mg, 0, none⟩) a mc) a (rs.flatMap ER.cells)] z, ?_⟩
        have HS := Lib.hid (HX.out.later hd)
        refine lt_pure 0 rfl (by kernel_rfl) (by kernel_rfl) (by kernel_rfl) (by kernel_rfl) (fun _ _ _ h => h) (v := ?_) (yi_run rfl (fun w => ?_)) (fun _ => HS.out) ?_
        rotate_left
        · first | (go_simp; done) | (go_simp; with_reducible rfl)
        simp only [Act.put, List.setIfInBounds_toArray, List.set_cons_zero, List.set_cons_succ]
        refine lt_pure 1 rfl (by kernel_rfl) (by kernel_rfl) (by kernel_rfl) (by kernel_rfl) (fun _ _ _ h => h) (v := ?_) (yi_run rfl (fun w => ?_)) (fun _ => HS.out) ?_
        rotate_left
        · first | (go_simp; done) | (go_simp; with_reducible rfl)
        simp only [Act.put, List.setIfInBounds_toArray, List.set_cons_zero, List.set_cons_succ]
        refine lt_pure 2 rfl (by kernel_rfl) (by kernel_rfl) (by kernel_rfl) (by kernel_rfl) (fun _ _ _ h => h) (v := ?_) (yi_run rfl (fun w => ?_)) (fun _ => HS.out) ?_
        rotate_left
        · first | (go_simp; done) | (go_simp; with_reducible rfl)
        simp only [Act.put, List.setIfInBounds_toArray, List.set_cons_zero, List.set_cons_succ]
        refine lt_pure 3 rfl (by kernel_rfl) (by kernel_rfl) (by kernel_rfl) (by kernel_rfl) (fun _ _ _ h => h) (v := ?_) (yi_run rfl (fun w => ?_)) (fun _ => HS.out) ?_
        rotate_left
        · first | (go_simp; done) | (go_simp; with_reducible rfl)
        simp only [Act.put, List.setIfInBounds_toArray, List.set_cons_zero, List.set_cons_succ]
        refine lt_pure 4 rfl (by kernel_rfl) (by kernel_rfl) (by kernel_rfl) (by kernel_rfl) (fun _ _ _ h => h) (v := ?_) (yi_run rfl (fun w => ?_)) (fun _ => HS.out) ?_
        rotate_left
        · first | (go_simp; done) | (go_simp; with_reducible rfl)
        simp only [Act.put, List.setIfInBounds_toArray, List.set_cons_zero, List.set_cons_succ]
        refine lt_skip 5 rfl (by kernel_rfl) (by kernel_rfl) (by kernel_rfl) (by kernel_rfl) (fun _ _ _ h => h) rfl (fun _ => HS.out) ?_
        simp only [Act.put, List.setIfInBounds_toArray, List.set_cons_zero, List.set_cons_succ]
        refine lt_skip 6 rfl (by kernel_rfl) (by kernel_rfl) (by kernel_rfl) (by kernel_rfl) (fun _ _ _ h => h) rfl (fun _ => HS.out) ?_
        simp only [Act.put, List.setIfInBounds_toArray, List.set_cons_zero, List.set_cons_succ]
        refine lt_skip 7 rfl (by kernel_rfl) (by kernel_rfl) (by kernel_rfl) (by kernel_rfl) (fun _ _ _ h => h) rfl (fun _ => HS.out) ?_
        simp only [Act.put, List.setIfInBounds_toArray, List.set_cons_zero, List.set_cons_succ]
        refine lt_skip 8 rfl (by kernel_rfl) (by kernel_rfl) (by kernel_rfl) (by kernel_rfl) (fun _ _ _ h => h) rfl (fun _ => HS.out) ?_
        simp only [Act.put, List.setIfInBounds_toArray, List.set_cons_zero, List.set_cons_succ]
        refine lt_skip 9 rfl (by kernel_rfl) (by kernel_rfl) (by kernel_rfl) (by kernel_rfl) (fun _ _ _ h => h) rfl (fun _ => HS.out) ?_
        simp only [Act.put, List.setIfInBounds_toArray, List.set_cons_zero, List.set_cons_succ]
        refine lt_skip 10 rfl (by kernel_rfl) (by kernel_rfl) (by kernel_rfl) (by kernel_rfl) (fun _ _ _ h => h) rfl (fun _ => HS.out) ?_
        simp only [Act.put, List.setIfInBounds_toArray, List.set_cons_zero, List.set_cons_succ]
        refine lt_skip 11 rfl (by kernel_rfl) (by kernel_rfl) (by kernel_rfl) (by kernel_rfl) (fun _ _ _ h => h) rfl (fun _ => HS.out) ?_
        simp only [Act.put, List.setIfInBounds_toArray, List.set_cons_zero, List.set_cons_succ]
        refine lt_skip 12 rfl (by kernel_rfl) (by kernel_rfl) (by kernel_rfl) (by kernel_rfl) (fun _ _ _ h => h) rfl (fun _ => HS.out) ?_
        simp only [Act.put, List.setIfInBounds_toArray, List.set_cons_zero, List.set_cons_succ]
        refine lt_skip 13 rfl (by kernel_rfl) (by kernel_rfl) (by kernel_rfl) (by kernel_rfl) (fun _ _ _ h => h) rfl (fun _ => HS.out) ?_
        simp only [Act.put, List.setIfInBounds_toArray, List.set_cons_zero, List.set_cons_succ]
        refine lt_skip 14 rfl (by kernel_rfl) (by kernel_rfl) (by kernel_rfl) (by kernel_rfl) (fun _ _ _ h => h) rfl (fun _ => HS.out) ?_
        simp only [Act.put, List.setIfInBounds_toArray, List.set_cons_zero, List.set_cons_succ]
        refine lt_pure 15 rfl (by kernel_rfl) (by kernel_rfl) (by kernel_rfl) (by kernel_rfl) (fun _ _ _ h => h) (v := ?_) (yi_run rfl (fun w => ?_)) (fun _ => HS.out) ?_
        rotate_left
        · first | (go_simp; done) | (go_simp; with_reducible rfl)
        simp only [Act.put, List.setIfInBounds_toArray, List.set_cons_zero, List.set_cons_succ]
        refine lt_done (by kernel_rfl) ?_
        have HS9 := HS
        clear HS
        have HX2 := Lib.hid HS9.out
        clear HS9 HX
        go_wp2_with fail
        refine lt_start [] (by kernel_rfl) ?_
        intro xd hd
        refine ⟨fun z => OW w [rowO 37 7 (.slice (some ⟨mg, 0, none⟩) a mc) a (rs.flatMap ER.cells)] z, ?_⟩
        have HS := Lib.hid (HX2.out.later hd)
        refine lt_pure 0 rfl (by kernel_rfl) (by kernel_rfl) (by kernel_rfl) (by kernel_rfl) (fun _ _ _ h => h) (v := ?_) (yi_run rfl (fun w => ?_)) (fun _ => HS.out) ?_
        rotate_left
        · first | (go_simp; done) | (go_simp; with_reducible rfl)
        simp only [Act.put, List.setIfInBounds_toArray, List.set_cons_zero, List.set_cons_succ]
        refine lt_pure 1 rfl (by kernel_rfl) (by kernel_rfl) (by kernel_rfl) (by kernel_rfl) (fun _ _ _ h => h) (v := ?_) (yi_run rfl (fun w => ?_)) (fun _ => HS.out) ?_
        rotate_left
        · first | (go_simp; done) | (go_simp; with_reducible rfl)
        simp only [Act.put, List.setIfInBounds_toArray, List.set_cons_zero, List.set_cons_succ]
        refine lt_pure 2 rfl (by kernel_rfl) (by kernel_rfl) (by kernel_rfl) (by kernel_rfl) (fun _ _ _ h => h) (v := ?_) (yi_run rfl (fun w => ?_)) (fun _ => HS.out) ?_
        rotate_left
        · first | (go_simp; done) | (go_simp; with_reducible rfl)
        simp only [Act.put, List.setIfInBounds_toArray, List.set_cons_zero, List.set_cons_succ]
        refine lt_pure 3 rfl (by kernel_rfl) (by kernel_rfl) (by kernel_rfl) (by kernel_rfl) (fun _ _ _ h => h) (v := ?_) (yi_run rfl (fun w => ?_)) (fun _ => HS.out) ?_
        rotate_left
        · first | (go_simp; done) | (go_simp; with_reducible rfl)
        simp only [Act.put, List.setIfInBounds_toArray, List.set_cons_zero, List.set_cons_succ]
        refine lt_pure 4 rfl (by kernel_rfl) (by kernel_rfl) (by kernel_rfl) (by kernel_rfl) (fun _ _ _ h => h) (v := ?_) (yi_run rfl (fun w => ?_)) (fun _ => HS.out) ?_
        rotate_left
        · first | (go_simp; done) | (go_simp; with_reducible rfl)
        simp only [Act.put, List.setIfInBounds_toArray, List.set_cons_zero, List.set_cons_succ]
        refine lt_skip 5 rfl (by kernel_rfl) (by kernel_rfl) (by kernel_rfl) (by kernel_rfl) (fun _ _ _ h => h) rfl (fun _ => HS.out) ?_
        simp only [Act.put, List.setIfInBounds_toArray, List.set_cons_zero, List.set_cons_succ]
        refine lt_skip 6 rfl (by kernel_rfl) (by kernel_rfl) (by kernel_rfl) (by kernel_rfl) (fun _ _ _ h => h) rfl (fun _ => HS.out) ?_
        simp only [Act.put, List.setIfInBounds_toArray, List.set_cons_zero, List.set_cons_succ]
        refine lt_skip 7 rfl (by kernel_rfl) (by kernel_rfl) (by kernel_rfl) (by kernel_rfl) (fun _ _ _ h => h) rfl (fun _ => HS.out) ?_
        simp only [Act.put, List.setIfInBounds_toArray, List.set_cons_zero, List.set_cons_succ]
        refine lt_skip 8 rfl (by kernel_rfl) (by kernel_rfl) (by kernel_rfl) (by kernel_rfl) (fun _ _ _ h => h) rfl (fun _ => HS.out) ?_
        simp only [Act.put, List.setIfInBounds_toArray, List.set_cons_zero, List.set_cons_succ]
        refine lt_skip 9 rfl (by kernel_rfl) (by kernel_rfl) (by kernel_rfl) (by kernel_rfl) (fun _ _ _ h => h) rfl (fun _ => HS.out) ?_
        simp only [Act.put, List.setIfInBounds_toArray, List.set_cons_zero, List.set_cons_succ]
        refine lt_skip 10 rfl (by kernel_rfl) (by kernel_rfl) (by kernel_rfl) (by kernel_rfl) (fun _ _ _ h => h) rfl (fun _ => HS.out) ?_
        simp only [Act.put, List.setIfInBounds_toArray, List.set_cons_zero, List.set_cons_succ]
        refine lt_skip 11 rfl (by kernel_rfl) (by kernel_rfl) (by kernel_rfl) (by kernel_rfl) (fun _ _ _ h => h) rfl (fun _ => HS.out) ?_
        simp only [Act.put, List.setIfInBounds_toArray, List.set_cons_zero, List.set_cons_succ]
        refine lt_skip 12 rfl (by kernel_rfl) (by kernel_rfl) (by kernel_rfl) (by kernel_rfl) (fun _ _ _ h => h) rfl (fun _ => HS.out) ?_
        simp only [Act.put, List.setIfInBounds_toArray, List.set_cons_zero, List.set_cons_succ]
        refine lt_skip 13 rfl (by kernel_rfl) (by kernel_rfl) (by kernel_rfl) (by kernel_rfl) (fun _ _ _ h => h) rfl (fun _ => HS.out) ?_
        simp only [Act.put, List.setIfInBounds_toArray, List.set_cons_zero, List.set_cons_succ]
        refine lt_skip 14 rfl (by kernel_rfl) (by kernel_rfl) (by kernel_rfl) (by kernel_rfl) (fun _ _ _ h => h) rfl (fun _ => HS.out) ?_
        simp only [Act.put, List.setIfInBounds_toArray, List.set_cons_zero, List.set_cons_succ]
        refine lt_pure 15 rfl (by kernel_rfl) (by kernel_rfl) (by kernel_rfl) (by kernel_rfl) (fun _ _ _ h => h) (v := ?_) (yi_run rfl (fun w => ?_)) (fun _ => HS.out) ?_
        rotate_left
        · first | (go_simp; done) | (go_simp; with_reducible rfl)
        simp only [Act.put, List.setIfInBounds_toArray, List.set_cons_zero, List.set_cons_succ]
        refine lt_done (by kernel_rfl) ?_
        have HS9 := HS
        clear HS
        have HX3 := Lib.hid HS9.out
        clear HS9 HX2
        have k6 : mc ≠ a := by omega
        have k7 : ¬ a = mc := by omega
        have HN0 := Lib.hid (HX3.out.nilRow 37 7)
        have tk1 : True := trivial
        have tk2 : True := trivial
        go_wp2_with (first
          | (at_builtin; have _t := tk1; go_must (refine wl_append rfl (.tmp 57) (.tmp 60) rfl Tryd.entsS HN0.out 1 rfl rfl _ (some ⟨mg, 0, none⟩) a mc ((rs.flatMap ER.cells).take (a * 7)) rfl ((Reads.own (HN0.out.row (i := 0) rfl)).take (by omega)) (fun u hu => cells_one (List.mem_of_mem_take hu)) (by unfold maxLen; omega) (by omega) ?_); intro A1 c1 z1 hz _; rw [Nat.zero_add] at hz; rw [Nat.zero_add]; have HX4 : Hid (OW w [rowO 37 7 (.slice (some ⟨mg, 0, none⟩) a mc) a (rs.flatMap ER.cells), rowO 37 7 (.slice A1 a c1) a ((rs.take a).flatMap ER.cells)] z1) := Lib.hid (by rw [← flat7_take]; exact hz); clear hz HN0 HX3 tk1)
          | (refine wpList_load_at rfl 37 (.tmp 65) rfl rfl (HRG.out _ HX4.out.up) ent_row5 ?_)
          | (refine wl_build rfl #[(0, .tmp 66)] rfl #[.slice Ar e.row.length ec, .int .i64 e.fam, .slice B e.qual.length d, .int .i64 e.ts, .int .i64 e.seq, .int .i64 e.kind, .slice D e.val.length q] Tryd.entsS (.agg #[.slice none 0 0, .int .i64 0, .slice none 0 0, .int .i64 0, .int .i64 0, .int .i64 0, .slice none 0 0]) (by kernel_rfl) (by decide) (by decide) (by decide) rfl (by kernel_rfl) HX4.out ?_; intro g5 z5 hz _; have HX5 := Lib.hid hz; clear hz HX4)
          | (at_builtin; have _t := tk2; go_must (refine wl_append rfl (.tmp 62) (.tmp 67) rfl Tryd.entsS HX5.out 1 rfl rfl _ (some ⟨g5, 0, none⟩) 1 1 [.slice Ar e.row.length ec, .int .i64 e.fam, .slice B e.qual.length d, .int .i64 e.ts, .int .i64 e.seq, .int .i64 e.kind, .slice D e.val.length q] rfl (Reads.own (HX5.out.row (i := 2) rfl)) (by simp [Value.oneCell']) (by unfold maxLen; omega) (by omega) ?_); intro A6 c6 z6 hz _; have HX6 := Lib.hid (hz.erase 2); clear hz HX5 tk2)
          | (at_builtin; go_must (refine wl_append rfl (.tmp 69) (.tmp 72) rfl Tryd.entsS HX6.out 1 rfl rfl _ (some ⟨mg, a * 7, none⟩) (0) (mc - a) ([]) rfl (Reads.nil (w := z6) (B := 0) (size := 7)) (by simp) (by unfold maxLen; omega) (by omega) ?_); intro A7 c7 z7 hz _; have HX7 := Lib.hid (hz.erase 0); clear hz HX6))
        go_roundw
        case rel =>
          have e1 : (rs.take a ++ (⟨Ar, ec, B, d, D, q, e⟩ : ER) :: rs.drop a).flatMap ER.cells = (rs.take a).flatMap ER.cells ++ [.slice Ar e.row.length ec, .int .i64 e.fam, .slice B e.qual.length d, .int .i64 e.ts, .int .i64 e.seq, .int .i64 e.kind, .slice D e.val.length q] ++ ([]) := by
            rw [List.flatMap_append, List.flatMap_cons, List.append_assoc]
            rw [List.drop_of_length_le (by have := HRL.out; omega)]; rfl
          refine ⟨i + 1, a + 1 + (0), A7, c7, rs.take a ++ (⟨Ar, ec, B, d, D, q, e⟩ : ER) :: rs.drop a, by omega, by omega, by omega, by go_num, rfl, Lib.hid (by rw [List.length_append, List.length_cons, List.length_take, List.length_drop]; have := HRL.out; omega), Lib.hid ⟨?_, fun r hr z hz => ?_⟩, Lib.hid (by rw [e1]; exact HX7.out)⟩
          · rw [HTK.out, HST.out, HIA.out, List.map_append, List.map_cons, List.map_take, List.map_drop, HSR.out.ents]
          · rcases List.mem_append.1 hr with h1 | h1
            · exact HSR.out.en r (List.mem_of_mem_take h1) z hz
            · rcases List.mem_cons.1 h1 with rfl | h1
              · exact HEN.out z hz
              · exact HSR.out.en r (List.mem_of_mem_drop h1) z hz
        case measure => simp [intOf]; omega
end Go.Proofs.YtmigjipfomfacaaDoor
namespace Go.Proofs.YtmigjipfomfacaaDoor
open Go.RowKit
def entR (r : ER) : List Ob := entO r.A r.B r.D r.c r.d r.q r.e
def markR : ER := ⟨none, 0, none, 0, none, 0, { row := [], fam := -31, qual := [], ts := 0, seq := 0, kind := 0, val := [] }⟩
def listC (rs : List ER) (j : Nat) : List Value := (rs ++ List.replicate j markR).flatMap ER.cells
def listO (g n j mc : Nat) (rs : List ER) : Ob := rowO 37 7 (.slice (some ⟨g, 0, none⟩) (n + j) mc) (n + j) (listC rs j)
theorem flatE_snoc (rs : List ER) (r : ER) : (rs ++ [r]).flatMap entR = rs.flatMap entR ++ entR r := by rw [List.flatMap_append, List.flatMap_cons, List.flatMap_nil, List.append_nil]
theorem flat7_snoc (rs : List ER) (r : ER) : (rs ++ [r]).flatMap ER.cells = rs.flatMap ER.cells ++ r.cells := by rw [List.flatMap_append, List.flatMap_cons, List.flatMap_nil, List.append_nil]
theorem listC_snoc (rs : List ER) (j : Nat) : listC rs (j + 1) = listC rs j ++ markR.cells := by
  unfold listC
  rw [List.replicate_succ', ← List.append_assoc, flat7_snoc]
theorem map_snoc {es : List Ent} {k : Nat} {e : Ent} (h : es[k]? = some e) : (es.take (k + 1)).map cut5 = (es.take k).map cut5 ++ [cut5 e] := by
  rw [take_snoc h, List.map_append]; rfl
set_option maxRecDepth 100000 in
set_option maxHeartbeats 4000000 in
theorem entries5_any (es : List Ent) (A : Option Addr) (n c : Nat) (w : World) (hes : Ens w A n es) (hn : n ≤ 1000) :
    Calls Tryd.prog 38 #[.slice A n c] w fun e z => ∃ (g mc : Nat) (rs : List ER), e = .returned (.slice (some ⟨g, 0, none⟩) n mc) ∧ n + 9 ≤ mc ∧ rs.map ER.e = es.map cut5 ∧ OW w (listO g n 9 mc rs :: rs.flatMap entR) z := by
  have HLE := Lib.hid hes.len
  have HES : Hid (∀ z, Below w.heap.size w z → Ens z A n es) := Lib.hid fun z hz => hes.later hz
  have HX0 : Hid (OW w [rowO 37 7 (.slice none 0 0) 0 []] w) := Lib.hid ((OW.nil w).nilRow 37 7)
  clear hes
  go_enter Tryd.func38, Tryd.ntmps38
  go_wp2_with fail
  go_loopw [3, 4] (fun mv iv wr => ∃ (i : Nat) (MA : Option Addr) (mc : Nat) (rs : List ER), i ≤ n ∧ iv = .int .i64 i ∧ mv = .slice MA i mc ∧ Hid (rs.map ER.e = (es.take i).map cut5) ∧ Hid (OW w (rowO 37 7 (.slice MA i mc) i (rs.flatMap ER.cells) :: rs.flatMap entR) wr)) (fun _ iv _ => n - (intOf iv).toNat)
  case atStart => exact ⟨0, none, 0, [], Nat.zero_le _, rfl, rfl, Lib.hid rfl, HX0⟩
  case round =>
    clear HX0
    obtain ⟨i, MA, mc, rs, hin, rfl, rfl, HSR, HX⟩ := hrel
    by_cases hlt : i < n
    case pos =>
      have hd : decide ((i : Int) < (n : Int)) = true := decide_eq_true (by omega)
      obtain ⟨b, oo, Ar, ec, B, d, D, q, e, rfl, hbl2, hek, hrg, hen⟩ := (HES.out w (Below.refl _ _)).at_ hlt
      have HRG : Hid (∀ z, Below w.heap.size w z → z.rangeAt b (oo + i * 7) [.slice Ar e.row.length ec, .int .i64 e.fam, .slice B e.qual.length d, .int .i64 e.ts, .int .i64 e.seq, .int .i64 e.kind, .slice D e.val.length q]) := Lib.hid fun z hz j v hj => (hz.cell (p := ⟨b, _, none⟩) hbl2).trans (hrg j v hj)
      have HEN : Hid (∀ z, Below w.heap.size w z → En z Ar e.row.length ec B e.qual.length d D e.val.length q e) := Lib.hid fun z hz => hen.later hz
      have HTK : Hid ((es.take (i + 1)).map cut5 = (es.take i).map cut5 ++ [cut5 e]) := Lib.hid (map_snoc hek)
      have i1 : (0 : Int) ≤ (i : Int) := by omega
      have i2 : (i : Int) < (n : Int) := by omega
      clear hek hrg hen
      obtain ⟨e', he'⟩ : ∃ z, z = cut5 e := ⟨_, rfl⟩
      have HE' := Lib.hid he'.symm
      clear he'
      go_wp2_with (first
        | (refine wpList_load_at rfl 37 (.tmp 15) rfl rfl (HRG.out _ HX.out.up) ent_rowM ?_)
        | (go_at_call 32; go_must (refine (entry5_any e Ar _ ec B _ d D _ q _ (HEN.out _ HX.out.up)).mono ?_); rw [HE'.out]; rintro r x1 ⟨A1, B1, D1, c1, d1, q1, rfl, ho⟩; have HX1 : Hid (OW w (rowO 37 7 (.slice MA i mc) i (rs.flatMap ER.cells) :: List.flatMap entR (rs ++ [(⟨A1, c1, B1, d1, D1, q1, e'⟩ : ER)])) x1) := Lib.hid (by rw [flatE_snoc]; exact HX.out.app ho); clear ho HX)
        | (refine wl_build rfl #[(0, .tmp 17)] rfl #[.slice A1 e'.row.length c1, .int .i64 e'.fam, .slice B1 e'.qual.length d1, .int .i64 e'.ts, .int .i64 e'.seq, .int .i64 e'.kind, .slice D1 e'.val.length q1] Tryd.entsS (.agg #[.slice none 0 0, .int .i64 0, .slice none 0 0, .int .i64 0, .int .i64 0, .int .i64 0, .slice none 0 0]) (by kernel_rfl) (by decide) (by decide) (by decide) rfl (by kernel_rfl) HX1.out ?_; intro g5 x5 hz _; have HX5 := Lib.hid hz; clear hz HX1)
        | (at_builtin; go_must (refine wl_append rfl (.tmp 12) (.tmp 18) rfl Tryd.entsS HX5.out 0 rfl rfl _ (some ⟨g5, 0, none⟩) 1 1 [.slice A1 e'.row.length c1, .int .i64 e'.fam, .slice B1 e'.qual.length d1, .int .i64 e'.ts, .int .i64 e'.seq, .int .i64 e'.kind, .slice D1 e'.val.length q1] rfl (Reads.own (HX5.out.rowm (List.mem_append_right _ (.head _)))) (by simp [Value.oneCell']) (by unfold maxLen; omega) (by omega) ?_); intro A6 c6 x6 hz _; have HX6 : Hid (OW w (rowO 37 7 (.slice A6 (i + 1) c6) (i + 1) (List.flatMap ER.cells (rs ++ [(⟨A1, c1, B1, d1, D1, q1, e'⟩ : ER)])) :: List.flatMap entR (rs ++ [(⟨A1, c1, B1, d1, D1, q1, e'⟩ : ER)])) x6) := Lib.hid (by rw [flat7_snoc]; exact OW.left (ps := [_]) hz); clear hz HX5))
      go_roundw
      case rel => exact ⟨i + 1, A6, c6, _, by omega, by go_num, rfl, Lib.hid (by rw [HTK.out, List.map_append, HSR.out, HE'.out]; rfl), HX6⟩
      case measure => simp [intOf]; omega
    obtain rfl : i = n := by omega
    have hd : decide ((i : Int) < (i : Int)) = false := decide_eq_false (by omega)
    have HTA : Hid (rs.map ER.e = es.map cut5) := Lib.hid (by rw [HSR.out, take_all (by have := HLE.out; omega)])
    clear hlt HSR hin
    go_wp2_with fail
    go_loopw [3, 5] (fun mv iv wr => ∃ (j : Nat) (MA : Option Addr) (mc : Nat), j ≤ 9 ∧ iv = .int .i64 j ∧ mv = .slice MA (i + j) mc ∧ Hid (OW w (rowO 37 7 (.slice MA (i + j) mc) (i + j) (listC rs j) :: rs.flatMap entR) wr)) (fun _ iv _ => 9 - (intOf iv).toNat)
    case atStart => exact ⟨0, MA, mc, by omega, rfl, rfl, Lib.hid (by unfold listC; rw [List.replicate_zero, List.append_nil]; exact HX.out)⟩
    case round =>
      clear HX
      obtain ⟨j, MB, md, hj, rfl, rfl, HX⟩ := hrel
      by_cases hlt : j < 9
      case pos =>
        have hd2 : decide ((j : Int) < 9) = true := decide_eq_true (by omega)
        go_wp2_with (first
          | (refine wl_build rfl #[(0, .tmp 25)] rfl #[.slice none 0 0, .int .i64 (-31), .slice none 0 0, .int .i64 0, .int .i64 0, .int .i64 0, .slice none 0 0] Tryd.entsS (.agg #[.slice none 0 0, .int .i64 0, .slice none 0 0, .int .i64 0, .int .i64 0, .int .i64 0, .slice none 0 0]) (by kernel_rfl) (by decide) (by decide) (by decide) rfl (by kernel_rfl) HX.out ?_; intro g5 x5 hz _; have HX5 := Lib.hid hz; clear hz HX)
          | (at_builtin; go_must (refine wl_append rfl (.tmp 24) (.tmp 26) rfl Tryd.entsS HX5.out 0 rfl rfl _ (some ⟨g5, 0, none⟩) 1 1 [.slice none 0 0, .int .i64 (-31), .slice none 0 0, .int .i64 0, .int .i64 0, .int .i64 0, .slice none 0 0] rfl (Reads.own (HX5.out.rowm (List.mem_append_right _ (.head _)))) (by simp [Value.oneCell']) (by unfold maxLen; omega) (by omega) ?_); intro A6 c6 x6 hz _; have HX6 : Hid (OW w (rowO 37 7 (.slice A6 (i + (j + 1)) c6) (i + (j + 1)) (listC rs (j + 1)) :: rs.flatMap entR) x6) := Lib.hid (by rw [listC_snoc]; exact OW.left (ps := [_]) hz); clear hz HX5))
        go_roundw
        case rel => exact ⟨j + 1, A6, c6, by omega, by go_num, rfl, HX6⟩
        case measure => simp [intOf]; omega
      obtain rfl : j = 9 := by omega
      have hd2 : decide ((9 : Int) < 9) = false := decide_eq_false (by omega)
      obtain ⟨g, cap, hv, _, _, hcap, _⟩ := own_form (HX.out.row (i := 0) rfl) (show 0 < i + 9 by omega)
      injection hv with hv _ hcp
      subst hv hcp
      have hcI : (i : Int) ≤ (md : Int) := by omega
      have hcN : i ≤ md := by omega
      go_wp2_with fail
      go_ret
      exact ⟨g, md, rfl, hcap, rs, HTA.out, HX.out⟩
end Go.Proofs.YtmigjipfomfacaaDoor
