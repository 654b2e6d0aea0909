/-
  The statements' Settle, walked.
-/
import Derived.Test.YtkkfiffgldhahaaDoorWireL1
namespace Go.Proofs.YtkkfiffgldhahaaDoor
open Go.RowKit

def mkS (i : Nat) : UInt8 := UInt8.ofNat (1 + i % 251)
theorem mkS_v (i : Nat) : u8v (mkS i) = .int .u8 (1 + (i : Int) % 251) := by
  unfold u8v mkS
  rw [UInt8.toNat_ofNat', Nat.mod_eq_of_lt (by omega)]
  rw [show ((1 + i % 251 : Nat) : Int) = 1 + (i : Int) % 251 from by omega]
theorem mkS_n (i : Nat) : 1 + (i : Int) % 251 = ((mkS i).toNat : Int) := by
  have h := mkS_v i
  unfold u8v at h
  injection h with _ h
  exact h.symm

set_option maxRecDepth 100000 in
set_option maxHeartbeats 8000000 in
theorem settle_any (B g : Nat) (zs : RowL) (is js : List Nat) (lv wv : Value) (w : World) (h : BkH 5 22 B g w lv wv zs is js) (hs : SameC zs is js) (hm : is.length ≤ 10000) (hb : ∀ (i : Nat) r, zs[i]? = some r → r.2.2.length ≤ 16777216) :
    Calls Tryd.prog 42 #[.pointer (some ⟨g, 0, none⟩)] w fun e w' => e = .returned (.bool true) ∧ Below B w w' := by
  have H := Lib.hid h
  have HSC := Lib.hid hs
  have HLB := Lib.hid hb
  obtain ⟨n, hn⟩ : ∃ n, n = is.length := ⟨_, rfl⟩
  rw [← hn] at hm
  have XN := Lib.hid hn
  clear h hs hb hn
  go_enter Tryd.func42, Tryd.ntmps42
  go_wp2_with (go_at_call 67; go_must (refine (untouched_any B g zs is js lv wv _ H.out HSC.out (by have := XN.out; omega)).mono ?_); rintro e w1 ⟨rfl, hb1⟩; have HB1 := Lib.hid hb1; have H1 := Lib.hid (H.out.later hb1); clear hb1)
  obtain ⟨wa, rfl⟩ : ∃ wa : World, wa = w1 := ⟨_, rfl⟩
  obtain ⟨rs, hrs⟩ : ∃ rs, rs = pickR zs is := ⟨_, rfl⟩
  have hol := H1.out.ol
  rw [← hrs, ← XN.out] at hol
  obtain ⟨LA, lc, rfl, _, _, _, _⟩ := own_slice hol
  have hltI : ∀ i, i ∈ is → i < zs.length := fun i hi => H1.out.lt i (List.mem_append_left _ hi)
  have hR8 : RowsB 5 B wa rs := by rw [hrs]; exact H1.out.rows.pickL (List.nodup_append.1 H1.out.nd).1 hltI
  have hoff : Off (.slice LA n lc) rs := fun b hbb i r a hr ha => by
    rw [hrs] at hr
    obtain ⟨j, _, h2⟩ := pickR_get hltI hr
    exact H1.out.al b hbb j r a h2 ha
  have HEX : Hid (∀ k, k < n → ∃ (F : List UInt8) (a : Option Addr) (ca gl : Nat), F.length ≤ 16777216 ∧ rs[k]? = some (a, ca, F) ∧ LA = some ⟨gl, 0, none⟩ ∧ gl < wa.heap.size ∧ ¬ InR rs gl ∧ ∀ x, Chg (InR rs) wa x → x.cell? ⟨gl, k, none⟩ = some (.slice a F.length ca)) := Lib.hid fun k hk => by
    have hi : is[k]? = some (is[k]'(by rw [← XN.out]; exact hk)) := List.getElem?_eq_getElem _
    obtain ⟨r, hr⟩ : ∃ r, zs[is[k]'(by rw [← XN.out]; exact hk)]? = some r := ⟨_, List.getElem?_eq_getElem (hltI _ (List.mem_of_getElem? hi))⟩
    obtain ⟨a, ca, F⟩ := r
    have hrk : rs[k]? = some (a, ca, F) := by rw [hrs]; exact pickR_at hi hr
    obtain ⟨gl, cap, hv, h1, h2, _⟩ := own_form hol (by omega)
    injection hv with hv _ _
    subst hv
    have hnr : ¬ InR rs gl := fun ⟨i, r, a, e1, e2, e3⟩ => hoff gl rfl i r a e1 e2 e3
    exact ⟨F, a, ca, gl, HLB.out _ _ hr, hrk, rfl, h2, hnr, fun x hx => hx.cell (p := ⟨gl, k, none⟩) ((World.ownsRow.cellAt hol k (by omega)).trans (by rw [List.getElem?_map, hrk]; rfl)) hnr⟩
  have HBK : Hid (∀ x, Chg (InR rs) wa x → x.cell? ⟨g, 0, none⟩ = some (.slice LA n lc)) := Lib.hid fun x hx => hx.cell H1.out.box.c0 (fun ⟨i, r, a, e1, e2, e3⟩ => by have h1 := ((hR8.1 i r e1).lt e2).1; have h2 := H1.out.gB; simp only at e3; omega)
  have R8 := Lib.hid hR8
  have HLT : Hid (∀ (i : Nat) r a, rs[i]? = some r → r.1 = some a → B ≤ a.block ∧ a.block < wa.heap.size) := Lib.hid fun i r a hr ha => (hR8.1 i r hr).lt ha
  have HBS : Hid (B ≤ wa.heap.size) := Lib.hid H1.out.le
  have HBW := Lib.hid (HB1.out.mono H.out.le)
  have x0 := HBK.out wa (Chg.refl _ _)
  clear hrs hol hltI hR8 hoff H1 H HSC HLB HB1 XN
  go_wp2_with fail
  clear x0
  go_loopw [3] (fun i wr => ∃ k : Nat, k ≤ n ∧ i = .int .i64 k ∧ Hid (RowsB 5 B wr (fillR mkS rs k)) ∧ Hid (Chg (InR rs) wa wr) ∧ Hid (Below B wa wr)) (fun i _ => n - (intOf i).toNat)
  case atStart => exact ⟨0, by omega, rfl, Lib.hid (by rw [fillR_zero]; exact R8.out), Lib.hid (Chg.refl _ _), Lib.hid (Below.refl _ _)⟩
  case round =>
    obtain ⟨k, hk, rfl, HRW, HC, HB⟩ := hrel
    have x0 := HBK.out wr HC.out
    by_cases hlt : k < n
    case neg =>
      have hd : decide ((k : Int) < (n : Int)) = false := decide_eq_false (by omega)
      have hkn : k = n := by omega
      obtain ⟨r2, hr2⟩ : ∃ r2, r2 = fillR mkS rs k := ⟨_, rfl⟩
      rw [← hr2] at HRW
      have HEX4 : Hid (∀ k, k < n → ∀ a ca (F : List UInt8), rs[k]? = some (a, ca, F) → r2[k]? = some (a, ca, List.replicate F.length (mkS k))) := Lib.hid fun i hi a ca F h => by
        rw [hr2, fillR_get, h, hkn]; simp [hi]
      have HL4 : Hid (∀ (i : Nat) r a, r2[i]? = some r → r.1 = some a → InR rs a.block) := Lib.hid fun i r a hr ha => by
        rw [hr2, fillR_get] at hr
        cases h : rs[i]? with
        | none => rw [h] at hr; cases hr
        | some q =>
          rw [h] at hr; injection hr with hr
          have e : q.1 = some a := by
            rw [← ha, ← hr]; split <;> rfl
          exact ⟨i, q, a, h, e, rfl⟩
      obtain ⟨wp, rfl⟩ : ∃ wp : World, wp = wr := ⟨_, rfl⟩
      obtain ⟨H3, hH3⟩ : ∃ H, H = wp.heap.size := ⟨_, rfl⟩
      have hwH : wa.heap.size ≤ H3 := by have := HC.out.size; omega
      have HL3 : Hid (∀ (i : Nat) r a, r2[i]? = some r → r.1 = some a → a.block < H3) := Lib.hid fun i r a hr ha => by
        obtain ⟨j, q, b, e1, e2, e3⟩ := HL4.out i r a hr ha
        have := (HLT.out j q b e1 e2).2
        omega
      have HLB : Hid (∀ (i : Nat) r a, r2[i]? = some r → r.1 = some a → B ≤ a.block) := Lib.hid fun i r a hr ha => by
        obtain ⟨j, q, b, e1, e2, e3⟩ := HL4.out i r a hr ha
        have := (HLT.out j q b e1 e2).1
        omega
      have hH3' : H3 ≤ wp.heap.size := by omega
      have hbH : B ≤ H3 := Nat.le_trans HBS.out hwH
      clear hr2 hH3 hkn hk
      go_wp2_with fail
      clear hlt x0
      go_loopw [5, 6] (fun v i wr => ∃ (q : Nat) (vs : List Value), q ≤ n ∧ i = .int .i64 q ∧ wr.ownsRow H3 22 1 v q vs ∧ Hid (RowsB 5 B wr r2) ∧ Hid (FamS wr v.ownBlock vs (moreL mkS rs q)) ∧ Hid (Aps r2 q vs) ∧ Hid (Chg (InR rs) wa wr) ∧ Hid (Below B wa wr) ∧ Hid (H3 ≤ wr.heap.size)) (fun _ i _ => n - (intOf i).toNat)
      case atStart => exact ⟨0, [], by omega, rfl, own_nil _ _ _ _, HRW, Lib.hid FamS.nil, Lib.hid (Aps.nil _), HC, HB, Lib.hid hH3'⟩
      case round =>
        clear HRW HC HB hH3' hd
        obtain ⟨q, vs, hq, rfl, hown, HRW, HF, HA, HC, HB, HH⟩ := hrel
        have x0 := HBK.out wr HC.out
        by_cases hlt : q < n
        case neg =>
          have hd : decide ((q : Int) < (n : Int)) = false := decide_eq_false (by omega)
          obtain ⟨Am, cm, hv, _, _, _, hrm⟩ := own_slice hown
          subst hv
          have HRM : Hid (∀ k, k < n → ∃ (b o gl L : Nat) (a a' : Option Addr) (ca c' : Nat), Am = some ⟨b, o, none⟩ ∧ LA = some ⟨gl, 0, none⟩ ∧ L ≤ 16777216 ∧ wr.cell? ⟨gl, k, none⟩ = some (.slice a L ca) ∧ wr.cell? ⟨b, o + k, none⟩ = some (.slice a' (2 * L + 70) c') ∧ Sl wr a L ca (List.replicate L (mkS k)) ∧ Sl wr a' (2 * L + 70) c' (List.replicate (2 * L + 70) (mkS k))) := Lib.hid fun k hk => by
            obtain ⟨F, a, ca, gl, h1, h2, h3, h4, h5, h6⟩ := HEX.out k hk
            obtain ⟨b, o, rfl, hb, hcell⟩ := hrm.2 (by omega)
            obtain ⟨a', c', q1, q2⟩ := HF.out.at_ (moreL_at mkS (show k < q by omega) h2)
            rw [List.length_replicate] at q1 q2
            exact ⟨b, o, gl, F.length, a, a', ca, c', rfl, h3, h1, h6 wr HC.out, hcell _ _ q1, HRW.out.sl_at (HEX4.out k hk _ _ _ h2) (by simp), q2⟩
          obtain ⟨hq2⟩ : Nonempty (q = n) := ⟨by omega⟩
          have hqn : q = n := hq2
          have HQN := Lib.hid hqn
          clear hown hrm hqn hq2
          go_wp2_with fail
          clear hd hlt
          go_loop [9] (fun i => ∃ k : Nat, k ≤ n ∧ i = .int .i64 k) (fun i => n - (intOf i).toNat)
          case atStart => exact ⟨0, by omega, rfl⟩
          case round =>
            obtain ⟨k, hk, rfl⟩ := hrel
            by_cases hlt : k < n
            case neg =>
              have hd : decide ((k : Int) < (n : Int)) = false := decide_eq_false (by omega)
              go_wp2_with fail
              go_ret
              exact ⟨rfl, HBW.out.trans HB.out⟩
            have hd : decide ((k : Int) < (n : Int)) = true := decide_eq_true (by omega)
            obtain ⟨b, o, gl, L, a, a', ca, c', rfl, rfl, hL, m1, m2, s1, s2⟩ := HRM.out k hlt
            have P1 := Lib.hid s1
            have P2 := Lib.hid s2
            have MS := Lib.hid (mkS_n k)
            have j1 : (0 : Int) ≤ (k : Int) := by omega
            have j2 : (k : Int) < (n : Int) := by omega
            have j3 : (k : Int) < (q : Int) := by have := HQN.out; omega
            have j4 : k < q := by omega
            have tok : True := trivial
            clear s1 s2
            go_wp2_with (first
              | (go_at_call 68; have _t := tok; go_must (refine (only_any a L ca (mkS k) _ MS.out _ (by omega) P1.out).mono ?_); rintro e wn ⟨rfl, rfl⟩; clear tok)
              | (go_at_call 68; go_must (refine (only_any a' (2 * L + 70) c' (mkS k) _ MS.out _ (by omega) P2.out).mono ?_); rintro e wn ⟨rfl, rfl⟩))
            go_round
            case rel => exact ⟨k + 1, by omega, by go_num⟩
            case measure => simp [intOf]; omega
        have hd : decide ((q : Int) < (n : Int)) = true := decide_eq_true (by omega)
        obtain ⟨F, a, ca, gl, hlf, hsk, rfl, hglt, hoff, hcc⟩ := HEX.out q hlt
        obtain ⟨L, hL⟩ : ∃ L, L = F.length := ⟨_, rfl⟩
        have hrk := HEX4.out q hlt _ _ _ hsk
        have hcell := hcc wr HC.out
        rw [← hL] at hrk hcell hlf
        obtain ⟨m, hm'⟩ : ∃ m, m = mkS q := ⟨_, rfl⟩
        rw [← hm'] at hrk
        have HRK := Lib.hid hrk
        have HOK := Lib.hid (HRW.out.1 q _ hrk)
        have HIR : Hid (∀ b, a = some b → InR rs b.block) := Lib.hid fun b hb => HL4.out q _ b hrk hb
        have HNE : Hid (a.map (·.block) ≠ some gl) := Lib.hid fun e => by
          cases a with
          | none => cases e
          | some b => injection e with e; exact hoff (e ▸ HIR.out b rfl)
        have HGE : Hid (∀ b, a = some b → B ≤ b.block) := Lib.hid fun b hb => HLB.out q _ b hrk hb
        have HHG : Hid (∀ b, a = some b → b.block < H3) := Lib.hid fun b hb => HL3.out q _ b hrk hb
        obtain ⟨v, hv⟩ : ∃ v, v = u5 := ⟨_, rfl⟩
        rw [← hv] at hown HF ⊢
        have HO := Lib.hid hown
        have HML : Hid (moreL mkS rs (q + 1) = moreL mkS rs q ++ [List.replicate L m ++ List.replicate (L + 70) m]) := Lib.hid (by
          rw [moreL_succ mkS hsk, ← hL, hm', List.replicate_append_replicate]; congr 3; omega)
        have HGC : Hid (GC 5 B wr ⟨gl, q, none⟩ (.slice a L ca) a ca (List.replicate L m) wr) := Lib.hid ⟨hcell, HOK.out, World.grownBy.refl _ _⟩
        have HBW2 : Hid (B ≤ wr.heap.size) := Lib.hid (Nat.le_trans hbH HH.out)
        have XM : Hid (u8v m = .int .u8 (1 + (q : Int) % 251)) := Lib.hid (by rw [hm']; exact mkS_v q)
        have HGL : Hid (gl < wr.heap.size) := Lib.hid (Nat.lt_of_lt_of_le hglt HC.out.size)
        have HLL : Hid ((List.replicate L m).length = L) := Lib.hid (by simp)
        have j1 : (0 : Int) ≤ (q : Int) := by omega
        have j2 : (q : Int) < (n : Int) := by omega
        obtain ⟨wo, rfl⟩ : ∃ wo : World, wo = wr := ⟨_, rfl⟩
        clear hv hown hsk hrk hcc hL hm' hglt
        go_wp2_with fail
        go_loopw [7] (fun v wy => ∃ (j : Nat) (A5 : Option Addr) (c5 : Nat), j ≤ L + 70 ∧ v = .slice A5 (L + j) c5 ∧ Hid (OwnB 5 B wy A5 c5 (List.replicate L m ++ List.replicate j m)) ∧ Hid (GC 5 B wo ⟨gl, q, none⟩ (.slice a L ca) a ca (List.replicate L m) wy) ∧ Hid (Blk wo a A5)) (fun v _ => 2 * L + 70 - (match v with | .slice _ k _ => k | _ => 0))
        case atStart => exact ⟨0, a, ca, by omega, rfl, Lib.hid (by rw [List.replicate_zero, List.append_nil]; exact HGC.out.own), HGC, Lib.hid (fun x hx => .inl (by rw [hx]; rfl))⟩
        case round =>
          obtain ⟨j, A5, c5, hj, rfl, HO5, HG5, HK5⟩ := hrel
          clear hcell x0
          by_cases hj70 : j < L + 70
          case neg =>
            have hd7 : decide ((L : Int) + (j : Int) < 2 * (L : Int) + 70) = false := decide_eq_false (by omega)
            have hjL : j = L + 70 := by omega
            have hjl : L + j = 2 * L + 70 := by omega
            have HJ := Lib.hid hjL
            have HLEN : Hid ((List.replicate L m ++ List.replicate (L + 70) m).length = L + j) := Lib.hid (by simp; omega)
            have HO6 : Hid (OwnB 5 B wr A5 c5 (List.replicate L m ++ List.replicate (L + 70) m)) := Lib.hid (by rw [← HJ.out]; exact HO5.out)
            clear hjL hjl
            go_wp2_with (at_builtin; go_must (refine wpList_append_reads _ rfl (.tmp 78) (.tmp 80) rfl Tryd.kss H3 v q vs rfl ((more_own2 HO.out HG5.out.grown HHG.out).alloc _) (wr.heap.size + 1) (some ⟨wr.heap.size, 0, none⟩) 1 1 [.slice A5 (L + j) c5] rfl (lit_one8 _ _ _ _ rfl) (by simp [Value.oneCell']) (by unfold maxLen; omega) (by omega) (by have := HH.out; have := HG5.out.grown.size; simp; omega) ?_); intro v8 w8 hown8 hg8 hat8; have HST := Lib.hid (more_step2 HLEN.out HRW.out HRK.out HF.out HA.out HO.out HL3.out HH.out HG5.out.grown HG5.out.own HO6.out HK5.out hg8 hat8); have HO8 := Lib.hid hown8; clear hown8 hg8 hat8)
            have hO8 := HO8.out
            have HC8 := Lib.hid (HC.out.trans3 (HST.out.2.2.2 (fun b => InR rs b ∨ H3 ≤ b) (fun b hb => .inl (HIR.out b hb)) fun b h => .inr h) hwH)
            have HB8 := Lib.hid (HB.out.trans ((HST.out.2.2.2 (fun b => B ≤ b) HGE.out fun b h => Nat.le_trans hbH h).below HBW2.out fun b _ h => h))
            clear HO8
            go_roundw
            case rel => exact ⟨q + 1, vs ++ [.slice A5 (L + j) c5], by omega, by go_num, hO8, Lib.hid HST.out.1, Lib.hid (by rw [HML.out]; exact HST.out.2.1), Lib.hid HST.out.2.2.1, HC8, HB8, Lib.hid (Nat.le_trans HH.out (HST.out.2.2.2 (fun b => True) (fun _ _ => trivial) fun _ _ => trivial).size)⟩
            case measure => simp [intOf]; omega
          have hd7 : decide ((L : Int) + (j : Int) < 2 * (L : Int) + 70) = true := decide_eq_true (by omega)
          have HSR : Hid (Sl wr a (L + 0) ca (List.replicate L m ++ List.replicate 0 m)) := Lib.hid (by
            have h := Sl.own HG5.out.own
            rw [List.length_replicate] at h
            rw [List.replicate_zero, List.append_nil]
            exact h)
          have hb0 := (Below.refl wr.heap.size wr).alloc (Nat.le_refl _) (.cells #[.int .u8 (1 + (q : Int) % 251)] 5)
          have HB0 := Lib.hid hb0
          clear hb0
          go_wp2_with (at_builtin; go_must (refine wpList_append_cells _ rfl (.tmp 71) (.tmp 76) rfl Tryd.u8s' B (.slice A5 (L + j) c5) (L + j) (u8s (List.replicate L m ++ List.replicate j m)) rfl (own_len (HO5.out.later HB0.out) (by simp)) (wr.heap.size + 1) (some ⟨wr.heap.size, 0, none⟩) 1 1 (u8s (List.replicate 1 m)) rfl (by exact reads_lit wr _ [m] _ _ (by show _ = [u8v m]; rw [XM.out])) (u8s_one _) (by unfold maxLen; omega) (by omega) (by have := HBW2.out; have := HG5.out.grown.size; simp; omega) ?_); intro v7 w7 hown7 hg7 hat7 hold7 hcell7; obtain ⟨A7, c7, rfl, _⟩ := own_slice hown7; have HST := Lib.hid (grow_step (HG5.out.call HB0.out) (HO5.out.later HB0.out) HK5.out (HSR.out.later HB0.out) (own_off HG5.out.own) (HSR.out.later HB0.out) (own_off HG5.out.own) HNE.out HGL.out hown7 hg7 hat7 hold7 hcell7); clear hown7 hg7 hat7 hold7 hcell7)
          go_roundw
          case rel => exact ⟨j + 1, A7, c7, by omega, rfl, Lib.hid HST.out.1, Lib.hid HST.out.2.1, Lib.hid HST.out.2.2.1⟩
          case measure => simp; omega
    have hd : decide ((k : Int) < (n : Int)) = true := decide_eq_true (by omega)
    obtain ⟨F, a, ca, gl, hlf, hsk, rfl, hglt, hoff, hcc⟩ := HEX.out k hlt
    obtain ⟨LF, hLF⟩ : ∃ L, L = F.length := ⟨_, rfl⟩
    rw [← hLF] at hcc hlf
    have XLF := Lib.hid hLF
    have HMV := Lib.hid (mkS_v k)
    have HSK := Lib.hid hsk
    have HCC := Lib.hid hcc
    have HGB : Hid (∀ b, a = some b → B ≤ b.block ∧ InR rs b.block) := Lib.hid fun b hb => ⟨(HLT.out k _ b hsk hb).1, ⟨k, _, b, hsk, hb, rfl⟩⟩
    have hcell := hcc wr HC.out
    clear hsk hLF hcc
    go_wp2_with fail
    go_loopw [4] (fun q wr => ∃ j : Nat, j ≤ LF ∧ q = .int .i64 j ∧ Hid (RowsB 5 B wr ((fillR mkS rs k).set k (a, ca, fillTo F (mkS k) j))) ∧ Hid (Chg (InR rs) wa wr) ∧ Hid (Below B wa wr)) (fun q _ => LF - (intOf q).toNat)
    case atStart => exact ⟨0, by omega, rfl, Lib.hid (by rw [fillR_start HSK.out]; exact HRW.out), HC, HB⟩
    case round =>
      obtain ⟨j, hj, rfl, HRJ, HCJ, HBJ⟩ := hrel
      have hcell2 := HCC.out wr HCJ.out
      have x1 := HBK.out wr HCJ.out
      clear hcell x0
      by_cases hjl : j < LF
      case neg =>
        obtain rfl : j = LF := by omega
        have HDONE : Hid (RowsB 5 B wr (fillR mkS rs (k + 1))) := Lib.hid (by
          have h := HRJ.out
          rw [XLF.out, fillR_done HSK.out] at h
          exact h)
        have hd2 : decide ((j : Int) < (j : Int)) = false := decide_eq_false (by omega)
        go_wp2_with fail
        go_roundw
        case rel => exact ⟨k + 1, by omega, by go_num, HDONE, HCJ, HBJ⟩
        case measure => simp [intOf]; omega
      have hd2 : decide ((j : Int) < (LF : Int)) = true := decide_eq_true (by omega)
      have hjF : j < F.length := by rw [← XLF.out]; exact hjl
      obtain ⟨gk, rfl, hgk1, hgk2⟩ := HRJ.out.form (i := k) (l := fillTo F (mkS k) j) (by rw [List.getElem?_set, if_pos rfl, if_pos (by rw [fillR_len]; exact (List.getElem?_eq_some_iff.1 HSK.out).1)]) (by rw [fillTo_len _ (by omega)]; omega)
      have HG3 : Hid (B ≤ gk ∧ InR rs gk) := Lib.hid (HGB.out _ rfl)
      obtain ⟨u, hu⟩ : ∃ u, (fillTo F (mkS k) j)[j]? = some u := ⟨_, List.getElem?_eq_getElem (by rw [fillTo_len _ (by omega)]; exact hjF)⟩
      obtain ⟨hcu, hfu⟩ := HRJ.out.cell (i := k) (g := gk) (c := ca) (by rw [List.getElem?_set, if_pos rfl, if_pos (by rw [fillR_len]; exact (List.getElem?_eq_some_iff.1 HSK.out).1)]) hu
      have hst := HRJ.out.fill HSK.out hjF
      rw [HMV.out] at hst
      have HST := Lib.hid hst
      clear hst hu hjF hgk1 hgk2
      go_wp2_with fail
      go_roundw
      case rel => exact ⟨j + 1, by omega, by go_num, Lib.hid HST.out.1, Lib.hid (HCJ.out.trans (HST.out.2.mono fun b _ e => by rw [e]; exact HG3.out.2)), Lib.hid (HBJ.out.setCell (p := ⟨gk, j, none⟩) HG3.out.1 _)⟩
      case measure => simp [intOf]; omega

end Go.Proofs.YtkkfiffgldhahaaDoor
