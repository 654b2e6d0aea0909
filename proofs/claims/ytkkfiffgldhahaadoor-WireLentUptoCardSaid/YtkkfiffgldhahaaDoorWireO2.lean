/-
  The statements' filled, walked.
-/
import Derived.Test.YtkkfiffgldhahaaDoorWireO1
import Derived.Deep.DeepCutAuto
namespace Go.Proofs.YtkkfiffgldhahaaDoor
open Go.RowKit

/-- Rows that were written full, and what they were lengthened to: all hold their marks. -/
def StandOK (w : World) (A : Option Addr) (n : Nat) (A' : Option Addr) : Prop :=
  ∀ i, i < n → ∃ (b o b' o' L : Nat) (a : Option Addr) (ca : Nat), A = some ⟨b, o, none⟩ ∧ A' = some ⟨b', o', none⟩ ∧ L ≤ 16777216 ∧ b < w.heap.size ∧ b' < w.heap.size ∧ w.cell? ⟨b, o + i, none⟩ = some (.slice a L ca) ∧ Sl w a L ca (List.replicate L (mkW i)) ∧
    ∀ d, d < 3 → ∃ (a' : Option Addr) (c' : Nat), w.cell? ⟨b', o' + (3 * i + d), none⟩ = some (.slice a' (L + extW d) c') ∧ Sl w a' (L + extW d) c' (List.replicate L (mkW i) ++ List.replicate (extW d) (tlW i))
theorem StandOK.later {w x : World} {A A' : Option Addr} {n : Nat} (h : StandOK w A n A') (hb : Below w.heap.size w x) : StandOK x A n A' := fun i hi => by
  obtain ⟨b, o, b', o', L, a, ca, e1, e2, hL, h1, h2, hc, hs, hd⟩ := h i hi
  refine ⟨b, o, b', o', L, a, ca, e1, e2, hL, Nat.lt_of_lt_of_le h1 hb.size, Nat.lt_of_lt_of_le h2 hb.size, (hb.cell (p := ⟨b, o + i, none⟩) h1).trans hc, hs.later hb, fun d hd3 => ?_⟩
  obtain ⟨a', c', q1, q2⟩ := hd d hd3
  exact ⟨a', c', (hb.cell (p := ⟨b', o' + (3 * i + d), none⟩) h2).trans q1, q2.later hb⟩
theorem lit3 (w : World) (a b c : Value) (t : TypeId) (H : Nat) (h : w.heap.size = H) : Reads (w.alloc (.cells #[a, b, c] t)) (H + 1) 1 (some ⟨H, 0, none⟩) 3 [a, b, c] := by
  subst h; exact Reads.new w #[a, b, c] t 1 3 rfl
/-- The rows' blocks. -/
def InR (rs : RowL) (b : Nat) : Prop := ∃ (i : Nat) (r : Option Addr × Nat × List UInt8) (a : Addr), rs[i]? = some r ∧ r.1 = some a ∧ a.block = b
def FilledPost (base : Nat) (A : Option Addr) (n : Nat) (rs : RowL) (w : World) (e' : Ending) (w' : World) : Prop :=
  ∃ A' c', e' = .returned (.slice A' (3 * n) c') ∧ StandOK w' A n A' ∧ Chg (InR rs) w w' ∧ Below base w w'
set_option maxRecDepth 100000 in
set_option maxHeartbeats 8000000 in
theorem filled_any (base : Nat) (ks : List (List UInt8)) (A : Option Addr) (n c : Nat) (rs : RowL) (w : World) (hl : LR 5 22 base w A n c rs ks) (hn : n ≤ 100) (hb : ∀ (i : Nat) k, ks[i]? = some k → k.length ≤ 16777216) (hbase : base ≤ w.heap.size) :
    Calls Tryd.prog 37 #[.slice A n c] w (FilledPost base A n rs w) := by
  have HEX : Hid (∀ k, k < n → ∃ (F : List UInt8) (a : Option Addr) (ca gl : Nat), F.length ≤ 16777216 ∧ rs[k]? = some (a, ca, F) ∧ A = some ⟨gl, 0, none⟩ ∧ base ≤ gl ∧ gl < w.heap.size ∧ ¬ InR rs gl ∧ ∀ x, Chg (InR rs) w x → x.cell? ⟨gl, k, none⟩ = some (.slice a F.length ca)) := Lib.hid fun k hk => by
    have hkk : ks[k]? = some (ks[k]'(by rw [hl.len_ks]; exact hk)) := List.getElem?_eq_getElem _
    obtain ⟨a, ca, hr⟩ := cont_one10 hl.cont hkk
    obtain ⟨g, rfl, h1, h2, h3⟩ := hl.cell hr
    have hoff : ¬ InR rs g := fun ⟨i, r, a, e1, e2, e3⟩ => hl.off g rfl i r a e1 e2 e3
    exact ⟨_, a, ca, g, hb _ _ hkk, hr, rfl, h1, h2, hoff, fun x hx => hx.cell (p := ⟨g, k, none⟩) h3 hoff⟩
  have R8 := Lib.hid hl.rows
  have HLT : Hid (∀ (i : Nat) r a, rs[i]? = some r → r.1 = some a → base ≤ a.block ∧ a.block < w.heap.size) := Lib.hid fun i r a hr ha => (hl.rows.1 i r hr).lt ha
  have HBS := Lib.hid hbase
  clear hl hb hbase
  go_enter Tryd.func37, Tryd.ntmps37
  go_wp2_with fail
  go_loopw [3] (fun i wr => ∃ k : Nat, k ≤ n ∧ i = .int .i64 k ∧ Hid (RowsB 5 base wr (fillR mkW rs k)) ∧ Hid (Chg (InR rs) w wr) ∧ Hid (Below base w wr)) (fun i _ => n - (intOf i).toNat)
  case atStart => exact ⟨0, by omega, rfl, Lib.hid (by rw [fillR_zero]; exact R8.out), Lib.hid (Chg.refl _ _), Lib.hid (Below.refl _ _)⟩
  case round =>
    obtain ⟨k, hk, rfl, HRW, HC, HB⟩ := hrel
    by_cases hlt : k < n
    case neg =>
      have hd : decide ((k : Int) < (n : Int)) = false := decide_eq_false (by omega)
      have hkn : k = n := by omega
      obtain ⟨r2, hr2⟩ : ∃ r2, r2 = fillR mkW rs k := ⟨_, rfl⟩
      rw [← hr2] at HRW
      have HEX4 : Hid (∀ k, k < n → ∀ a ca (F : List UInt8), rs[k]? = some (a, ca, F) → r2[k]? = some (a, ca, List.replicate F.length (mkW k))) := Lib.hid fun i hi a ca F h => by
        rw [hr2, fillR_get, h, hkn]; simp [hi]
      have HL4 : Hid (∀ (i : Nat) r a, r2[i]? = some r → r.1 = some a → InR rs a.block) := Lib.hid fun i r a hr ha => by
        rw [hr2, fillR_get] at hr
        cases h : rs[i]? with
        | none => rw [h] at hr; cases hr
        | some q =>
          rw [h] at hr; injection hr with hr
          have e : q.1 = some a := by
            rw [← ha, ← hr]; split <;> rfl
          exact ⟨i, q, a, h, e, rfl⟩
      obtain ⟨wp, rfl⟩ : ∃ wp : World, wp = wr := ⟨_, rfl⟩
      obtain ⟨H3, hH3⟩ : ∃ H, H = wp.heap.size := ⟨_, rfl⟩
      have hwH : w.heap.size ≤ H3 := by have := HC.out.size; omega
      have HL3 : Hid (∀ (i : Nat) r a, r2[i]? = some r → r.1 = some a → a.block < H3) := Lib.hid fun i r a hr ha => by
        obtain ⟨j, q, b, e1, e2, e3⟩ := HL4.out i r a hr ha
        have := (HLT.out j q b e1 e2).2
        omega
      have HLB : Hid (∀ (i : Nat) r a, r2[i]? = some r → r.1 = some a → base ≤ a.block) := Lib.hid fun i r a hr ha => by
        obtain ⟨j, q, b, e1, e2, e3⟩ := HL4.out i r a hr ha
        have := (HLT.out j q b e1 e2).1
        omega
      have hH3' : H3 ≤ wp.heap.size := by omega
      have hbH : base ≤ H3 := Nat.le_trans HBS.out hwH
      clear hr2 hH3 hkn hk
      go_wp2_with fail
      clear hlt
      go_loopw [5, 6] (fun v i wr => ∃ (q : Nat) (vs : List Value), q ≤ n ∧ i = .int .i64 q ∧ wr.ownsRow H3 22 1 v (3 * q) vs ∧ Hid (RowsB 5 base wr r2) ∧ Hid (FamS wr v.ownBlock vs (moreW mkW tlW rs q)) ∧ Hid (Aps r2 q vs) ∧ Hid (Chg (InR rs) w wr) ∧ Hid (Below base w wr) ∧ Hid (H3 ≤ wr.heap.size)) (fun _ i _ => n - (intOf i).toNat)
      case atStart => exact ⟨0, [], by omega, rfl, own_nil _ _ _ _, HRW, Lib.hid FamS.nil, Lib.hid (Aps.nil _), HC, HB, Lib.hid hH3'⟩
      case round =>
        clear HRW HC HB hH3' hd
        obtain ⟨q, vs, hq, rfl, hown, HRW, HF, HA, HC, HB, HH⟩ := hrel
        by_cases hlt : q < n
        case neg =>
          have hd : decide ((q : Int) < (n : Int)) = false := decide_eq_false (by omega)
          obtain rfl : q = n := by omega
          obtain ⟨A', c', hv, _, _, _, hrm⟩ := own_slice hown
          subst hv
          have HF9 : Hid (StandOK wr A q A') := Lib.hid fun i hi => by
            obtain ⟨F, a, ca, gl, h1, h2, rfl, h3, h4, h5, h6⟩ := HEX.out i hi
            obtain ⟨b', o', rfl, hb', hcell⟩ := hrm.2 (by omega)
            refine ⟨gl, 0, b', o', F.length, a, ca, rfl, rfl, h1, Nat.lt_of_lt_of_le h4 HC.out.size, hb', by rw [Nat.zero_add]; exact h6 wr HC.out, ?_, fun d hd => ?_⟩
            · exact HRW.out.sl_at (HEX4.out i hi _ _ _ h2) (by simp)
            · obtain ⟨a', c', q1, q2⟩ := HF.out.at_ (moreW_at mkW tlW hi hd h2)
              rw [List.length_append, List.length_replicate, List.length_replicate] at q1 q2
              exact ⟨a', c', hcell _ _ q1, q2⟩
          clear hown hrm
          go_wp2_with fail
          go_ret
          exact ⟨A', c', rfl, HF9.out, HC.out, HB.out⟩
        have hd : decide ((q : Int) < (n : Int)) = true := decide_eq_true (by omega)
        obtain ⟨F, a, ca, gl, hlf, hsk, rfl, hgb, hglt, hoff, hcc⟩ := HEX.out q hlt
        obtain ⟨L, hL⟩ : ∃ L, L = F.length := ⟨_, rfl⟩
        have hrk := HEX4.out q hlt _ _ _ hsk
        have hcell := hcc wr HC.out
        rw [← hL] at hrk hcell hlf
        obtain ⟨m, hm⟩ : ∃ m, m = mkW q := ⟨_, rfl⟩
        rw [← hm] at hrk
        have HRK := Lib.hid hrk
        have HOK := Lib.hid (HRW.out.1 q _ hrk)
        have HIR : Hid (∀ b, a = some b → InR rs b.block) := Lib.hid fun b hb => HL4.out q _ b hrk hb
        have HNE : Hid (a.map (·.block) ≠ some gl) := Lib.hid fun e => by
          cases a with
          | none => cases e
          | some b => injection e with e; exact hoff (e ▸ HIR.out b rfl)
        have HGE : Hid (∀ b, a = some b → base ≤ b.block) := Lib.hid fun b hb => HLB.out q _ b hrk hb
        obtain ⟨v, hv⟩ : ∃ v, v = u5 := ⟨_, rfl⟩
        rw [← hv] at hown HF ⊢
        have HO := Lib.hid hown
        have HMW : Hid (moreW mkW tlW rs (q + 1) = moreW mkW tlW rs q ++ [List.replicate L m ++ List.replicate 1 (tlW q), List.replicate L m ++ List.replicate 2 (tlW q), List.replicate L m ++ List.replicate 70 (tlW q)]) := Lib.hid (by
          rw [moreW_succ mkW tlW hsk, ← hL, ← hm])
        have HGC : Hid (∀ x, Below wr.heap.size wr x → GC 5 base wr ⟨gl, q, none⟩ (.slice a L ca) a ca (List.replicate L m) x) := Lib.hid fun x hx => GC.call ⟨hcell, HOK.out, World.grownBy.refl _ _⟩ hx
        have HBW : Hid (base ≤ wr.heap.size) := Lib.hid (Nat.le_trans hbH HH.out)
        have hq1 : (q : Int) < (n : Int) := by omega
        have hq2 : (0 : Int) ≤ (q : Int) := by omega
        have HLL : Hid ((List.replicate L m).length = L) := Lib.hid (by simp)
        obtain ⟨t, ht⟩ : ∃ t, t = tlW q := ⟨_, rfl⟩
        rw [← ht] at HMW
        have XT := Lib.hid ht
        have hq100 : q ≤ 1000 := by omega
        have HNN : Hid (∀ N : Nat, u8s (List.replicate N t) = u8s (List.replicate (u8s (List.replicate N t)).length t)) := Lib.hid fun N => by rw [u8s_length, List.length_replicate]
        clear hv hown hsk hrk hcc hL hm ht
        go_upto_region 12 with fail
        go_region_held3 (fun w' => w'.cell? ⟨gl, q, none⟩ = some (.slice a L ca) ∧ GC 5 base wr ⟨gl, q, none⟩ (.slice a L ca) a ca (List.replicate L m) w') (first | assumption | exact ⟨hcell, HGC.out _ (Below.refl _ _).drew⟩ | exact GC.call1 ‹_ ∧ GC _ _ _ _ _ _ _ _ _› hb1 | exact GC.app1 ‹_ ∧ GC _ _ _ _ _ _ _ _ _› HNE.out hg2 (own_of_len hold2 HLL.out)) (first
          | (go_at_call 57; refine (tail_of q 1 t XT.out _ hq100 (by omega)).mono ?_; rintro e w1 hp; obtain ⟨A1, c1, rfl, hS1, _, hb1⟩ := BytesPost.at_ (n := 1) hp (by simp))
          | (refine step_append_cells _ (by rfl) _ _ (by rfl) Tryd.u8s' base (.slice a L ca) L (u8s (List.replicate L m)) (by rfl) (own_len (‹_ ∧ GC _ _ _ _ _ _ _ _ _›).2.own HLL.out) _ A1 1 c1 (u8s (List.replicate 1 t)) (by rfl) hS1.rb (u8s_one _) (by unfold maxLen; omega) (by omega) (Nat.le_trans HBW.out (‹_ ∧ GC _ _ _ _ _ _ _ _ _›).2.grown.size) ?_; intro v2 w2 hown2 hg2 hat2 hold2 hcell2; obtain ⟨A2, c2, rfl, _⟩ := own_slice hown2; have G2 := Lib.hid (app_marks hown2); have K2 := Lib.hid (blk_of (w := wr) hat2 (‹_ ∧ GC _ _ _ _ _ _ _ _ _›).2.grown.size); clear hown2 hat2))
        all_goals
          obtain ⟨hc2, hgc2⟩ := ‹_ ∧ GC _ _ _ _ _ _ _ _ w2›
          have HG2 := Lib.hid hgc2
          have HS2 := Lib.hid (Sl.own G2.out)
          have HS2 : Hid (Sl w2 A2 (L + 1) c2 (List.replicate L m ++ List.replicate 1 t)) := Lib.hid (by have h := HS2.out; rw [List.length_append, List.length_replicate, List.length_replicate] at h; exact h)
          have HO2 := Lib.hid (own_off G2.out)
          clear hgc2 hS1 hg2 hold2 hcell2
          go_wp2_with fail
          go_region_held3 (fun w' => w'.cell? ⟨gl, q, none⟩ = some (.slice a L ca) ∧ GC 5 base wr ⟨gl, q, none⟩ (.slice a L ca) a ca (List.replicate L m) w' ∧ Sl w' A2 (L + 1) c2 (List.replicate L m ++ List.replicate 1 t)) (first | assumption | exact ⟨hc2, HG2.out.call (Below.refl _ _).drew, HS2.out.later (Below.refl _ _).drew⟩ | exact ⟨cell_below hb3 (‹_ ∧ GC _ _ _ _ _ _ _ _ _ ∧ Sl _ _ _ _ _›).1, (‹_ ∧ GC _ _ _ _ _ _ _ _ _ ∧ Sl _ _ _ _ _›).2.1.call hb3, (‹_ ∧ GC _ _ _ _ _ _ _ _ _ ∧ Sl _ _ _ _ _›).2.2.later hb3⟩ | exact ⟨((‹_ ∧ GC _ _ _ _ _ _ _ _ _ ∧ Sl _ _ _ _ _›).2.1.app HNE.out hg4 (own_of_len hold4 HLL.out)).cell, (‹_ ∧ GC _ _ _ _ _ _ _ _ _ ∧ Sl _ _ _ _ _›).2.1.app HNE.out hg4 (own_of_len hold4 HLL.out), (‹_ ∧ GC _ _ _ _ _ _ _ _ _ ∧ Sl _ _ _ _ _›).2.2.retail HLL.out HO2.out (Nat.le_refl _) hcell4 hg4.size⟩) (first
            | (go_at_call 57; refine (tail_of q 2 t XT.out _ hq100 (by omega)).mono ?_; rintro e w3 hp; obtain ⟨A3, c3, rfl, hS3, _, hb3⟩ := BytesPost.at_ (n := 2) hp (by simp))
            | (refine step_append_cells _ (by rfl) _ _ (by rfl) Tryd.u8s' base (.slice a L ca) L (u8s (List.replicate L m)) (by rfl) (own_len (‹_ ∧ GC _ _ _ _ _ _ _ _ _ ∧ Sl _ _ _ _ _›).2.1.own HLL.out) _ A3 2 c3 (u8s (List.replicate 2 t)) (by rfl) hS3.rb (u8s_one _) (by unfold maxLen; omega) (by omega) (Nat.le_trans HBW.out (‹_ ∧ GC _ _ _ _ _ _ _ _ _ ∧ Sl _ _ _ _ _›).2.1.grown.size) ?_; intro v4 w4 hown4 hg4 hat4 hold4 hcell4; obtain ⟨A4, c4, rfl, _⟩ := own_slice hown4; have G4 := Lib.hid (app_marks hown4); have K4 := Lib.hid (blk_of (w := wr) hat4 (‹_ ∧ GC _ _ _ _ _ _ _ _ _ ∧ Sl _ _ _ _ _›).2.1.grown.size); clear hown4 hat4))
          all_goals
            obtain ⟨hc4, hgc4, hs2⟩ := ‹_ ∧ GC _ _ _ _ _ _ _ _ w4 ∧ Sl _ _ _ _ _›
            have HG4 := Lib.hid hgc4
            have HS24 := Lib.hid hs2
            have HS4 : Hid (Sl w4 A4 (L + 2) c4 (List.replicate L m ++ List.replicate 2 t)) := Lib.hid (by have h := Sl.own G4.out; rw [List.length_append, List.length_replicate, List.length_replicate] at h; exact h)
            have HO4 := Lib.hid (own_off G4.out)
            have hlt4 : gl < wr.heap.size := Nat.lt_of_lt_of_le hglt HC.out.size
            have HGL := Lib.hid hlt4
            clear hgc4 hs2 hS3 hg4 hold4 hcell4 hcell hc2 hlt4
            have HHG : Hid (∀ b, a = some b → b.block < H3) := Lib.hid fun b hb => HL3.out q _ b HRK.out hb
            obtain ⟨wo, rfl⟩ : ∃ wo : World, wo = wr := ⟨_, rfl⟩
            go_wp2_with fail
            go_loopw [9, 10] (fun v i wy => ∃ (j : Nat) (A5 : Option Addr) (c5 : Nat), j ≤ 70 ∧ i = .int .i64 j ∧ v = .slice A5 (L + j) c5 ∧ Hid (OwnB 5 base wy A5 c5 (List.replicate L m ++ List.replicate j t)) ∧ Hid (GC 5 base wo ⟨gl, q, none⟩ (.slice a L ca) a ca (List.replicate L m) wy) ∧ Hid (Blk wo a A5) ∧ Hid (Sl wy A2 (L + 1) c2 (List.replicate L m ++ List.replicate 1 t)) ∧ Hid (Sl wy A4 (L + 2) c4 (List.replicate L m ++ List.replicate 2 t))) (fun _ i _ => 70 - (intOf i).toNat)
            case atStart => exact ⟨0, a, ca, by omega, rfl, rfl, Lib.hid (by rw [List.replicate_zero, List.append_nil]; exact HG4.out.own), HG4, Lib.hid (fun x hx => .inl (by rw [hx]; rfl)), HS24, HS4⟩
            case round =>
              obtain ⟨j, A5, c5, hj, rfl, rfl, HO5, HG5, HK5, HS25, HS45⟩ := hrel
              clear hc4
              by_cases hj70 : j < 70
              case neg =>
                have hd7 : decide ((j : Int) < 70) = false := decide_eq_false (by omega)
                obtain rfl : j = 70 := by omega
                have HS55 : Hid (Sl wr A5 (L + 70) c5 (List.replicate L m ++ List.replicate 70 t)) := Lib.hid (by have h := Sl.own HO5.out; rw [List.length_append, List.length_replicate, List.length_replicate] at h; exact h)
                go_wp2_with (at_builtin; go_must (refine wpList_append_reads _ rfl (.tmp 68) (.tmp 72) rfl Tryd.kss H3 v (3 * q) vs rfl ((more_own2 HO.out HG5.out.grown HHG.out).alloc _) (wr.heap.size + 1) (some ⟨wr.heap.size, 0, none⟩) 3 3 [.slice A2 (L + 1) c2, .slice A4 (L + 2) c4, .slice A5 (L + 70) c5] rfl (lit3 _ _ _ _ _ _ rfl) (by simp [Value.oneCell']) (by unfold maxLen; omega) (by omega) (by have := HH.out; have := HG5.out.grown.size; simp; omega) ?_); intro v8 w8 hown8 hg8 hat8; have HST := Lib.hid (more_step3 HRW.out HRK.out HF.out HA.out HO.out HL3.out HH.out HG5.out.grown HG5.out.own HS25.out HS45.out HS55.out K2.out K4.out HK5.out hg8 hat8); have HO8 := Lib.hid hown8; clear hown8 hg8 hat8)
                have hO8 := HO8.out
                have HC8 := Lib.hid (HC.out.trans3 (HST.out.2.2.2 (fun b => InR rs b ∨ H3 ≤ b) (fun b hb => .inl (HIR.out b hb)) fun b h => .inr h) hwH)
                have HB8 := Lib.hid (HB.out.trans ((HST.out.2.2.2 (fun b => base ≤ b) HGE.out fun b h => Nat.le_trans hbH h).below HBW.out fun b _ h => h))
                clear HO8
                go_roundw
                case rel => exact ⟨q + 1, vs ++ [.slice A2 (L + 1) c2, .slice A4 (L + 2) c4, .slice A5 (L + 70) c5], by omega, by go_num, hO8, Lib.hid HST.out.1, Lib.hid (by rw [HMW.out]; exact HST.out.2.1), Lib.hid HST.out.2.2.1, HC8, HB8, Lib.hid (Nat.le_trans HH.out (HST.out.2.2.2 (fun b => True) (fun _ _ => trivial) fun _ _ => trivial).size)⟩
                case measure => simp [intOf]; omega
              have hd7 : decide ((j : Int) < 70) = true := decide_eq_true (by omega)
              go_wp2_with (first
                | (go_at_call 57; go_must (refine (tail_of q 1 t XT.out _ hq100 (by omega)).mono ?_); rintro e w5 hp; obtain ⟨A6, c6, rfl, hS6, _, hb5⟩ := BytesPost.at_ (n := 1) hp (by simp); have HT6 := Lib.hid hS6; have HB5 := Lib.hid hb5; clear hp hS6 hb5)
                | (at_builtin; go_must (refine wpList_append_cells _ rfl (.tmp 64) (.tmp 66) rfl Tryd.u8s' base (.slice A5 (L + j) c5) (L + j) (u8s (List.replicate L m ++ List.replicate j t)) rfl (own_len (HO5.out.later HB5.out) (by simp)) _ A6 1 c6 (u8s (List.replicate 1 t)) rfl HT6.out.rb (u8s_one _) (by unfold maxLen; omega) (by omega) (Nat.le_trans HBW.out (Nat.le_trans HG5.out.grown.size HB5.out.size)) ?_); intro v7 w7 hown7 hg7 hat7 hold7 hcell7; obtain ⟨A7, c7, rfl, _⟩ := own_slice hown7; have HST := Lib.hid (grow_step (HG5.out.call HB5.out) (HO5.out.later HB5.out) HK5.out (HS25.out.later HB5.out) HO2.out (HS45.out.later HB5.out) HO4.out HNE.out HGL.out hown7 hg7 hat7 hold7 hcell7); clear hown7 hg7 hat7 hold7 hcell7))
              go_roundw
              case rel => exact ⟨j + 1, A7, c7, by omega, by go_num, rfl, Lib.hid HST.out.1, Lib.hid HST.out.2.1, Lib.hid HST.out.2.2.1, Lib.hid HST.out.2.2.2.1, Lib.hid HST.out.2.2.2.2⟩
              case measure => simp [intOf]; omega
    have hd : decide ((k : Int) < (n : Int)) = true := decide_eq_true (by omega)
    obtain ⟨F, a, ca, gl, hlf, hsk, rfl, hgb, hglt, hoff, hcc⟩ := HEX.out k hlt
    obtain ⟨LF, hLF⟩ : ∃ L, L = F.length := ⟨_, rfl⟩
    rw [← hLF] at hcc hlf
    have XLF := Lib.hid hLF
    have HMV := Lib.hid (mkW_v k)
    have HSK := Lib.hid hsk
    have HCC := Lib.hid hcc
    have HGB : Hid (∀ b, a = some b → base ≤ b.block ∧ InR rs b.block) := Lib.hid fun b hb => ⟨(HLT.out k _ b hsk hb).1, ⟨k, _, b, hsk, hb, rfl⟩⟩
    have hcell := hcc wr HC.out
    clear hsk hLF hcc
    go_wp2_with fail
    go_loopw [4] (fun q wr => ∃ j : Nat, j ≤ LF ∧ q = .int .i64 j ∧ Hid (RowsB 5 base wr ((fillR mkW rs k).set k (a, ca, fillTo F (mkW k) j))) ∧ Hid (Chg (InR rs) w wr) ∧ Hid (Below base w wr)) (fun q _ => LF - (intOf q).toNat)
    case atStart => exact ⟨0, by omega, rfl, Lib.hid (by rw [fillR_start HSK.out]; exact HRW.out), HC, HB⟩
    case round =>
      obtain ⟨j, hj, rfl, HRJ, HCJ, HBJ⟩ := hrel
      have hcell2 := HCC.out wr HCJ.out
      clear hcell
      by_cases hjl : j < LF
      case neg =>
        obtain rfl : j = LF := by omega
        have HDONE : Hid (RowsB 5 base wr (fillR mkW rs (k + 1))) := Lib.hid (by
          have h := HRJ.out
          rw [XLF.out, fillR_done HSK.out] at h
          exact h)
        have hd2 : decide ((j : Int) < (j : Int)) = false := decide_eq_false (by omega)
        go_wp2_with fail
        go_roundw
        case rel => exact ⟨k + 1, by omega, by go_num, HDONE, HCJ, HBJ⟩
        case measure => simp [intOf]; omega
      have hd2 : decide ((j : Int) < (LF : Int)) = true := decide_eq_true (by omega)
      have hjF : j < F.length := by rw [← XLF.out]; exact hjl
      obtain ⟨gk, rfl, hgk1, hgk2⟩ := HRJ.out.form (i := k) (l := fillTo F (mkW k) j) (by rw [List.getElem?_set, if_pos rfl, if_pos (by rw [fillR_len]; exact (List.getElem?_eq_some_iff.1 HSK.out).1)]) (by rw [fillTo_len _ (by omega)]; omega)
      have HG3 : Hid (base ≤ gk ∧ InR rs gk) := Lib.hid (HGB.out _ rfl)
      obtain ⟨u, hu⟩ : ∃ u, (fillTo F (mkW k) j)[j]? = some u := ⟨_, List.getElem?_eq_getElem (by rw [fillTo_len _ (by omega)]; exact hjF)⟩
      obtain ⟨hcu, hfu⟩ := HRJ.out.cell (i := k) (g := gk) (c := ca) (by rw [List.getElem?_set, if_pos rfl, if_pos (by rw [fillR_len]; exact (List.getElem?_eq_some_iff.1 HSK.out).1)]) hu
      have hst := HRJ.out.fill HSK.out hjF
      rw [HMV.out] at hst
      have HST := Lib.hid hst
      clear hst hu hjF hgk1 hgk2
      go_wp2_with fail
      go_roundw
      case rel => exact ⟨j + 1, by omega, by go_num, Lib.hid HST.out.1, Lib.hid (HCJ.out.trans (HST.out.2.mono fun b _ e => by rw [e]; exact HG3.out.2)), Lib.hid (HBJ.out.setCell (p := ⟨gk, j, none⟩) HG3.out.1 _)⟩
      case measure => simp [intOf]; omega

end Go.Proofs.YtkkfiffgldhahaaDoor
