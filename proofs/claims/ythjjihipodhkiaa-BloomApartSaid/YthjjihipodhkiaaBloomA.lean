/-
  BloomApart, walked.
-/
import Derived.Test.YthjjihipodhkiaaKit9
import Derived.Test.YthjjihipodhkiaaBloomO2
import Derived.Deep.RegionHeld3
namespace Go.Proofs.Ythjjihipodhkiaa
open Go.RowKit

set_option maxRecDepth 100000 in
set_option maxHeartbeats 1000000 in
theorem copied_any (l : List UInt8) (A : Option Addr) (n c : Nat) (w : World) (hn : n ≤ 140737488355000) (hr : RB w w.heap.size A n l) :
    Calls Try.prog 20 #[.slice A n c] w (BytesPost 5 l w) := by
  have HR := Lib.hid hr
  clear hr
  go_enter Try.func20, Try.ntmps20
  go_wp2_with (at_builtin; go_must (refine wpList_append_reads _ rfl (.tmp 4) (.tmp 5) rfl Try.u8s' w.heap.size (.slice none 0 0) 0 [] rfl (own_nil _ _ _ _) _ A n c (u8s l) rfl HR.out (u8s_one _) (by unfold maxLen; omega) (by omega) (Nat.le_refl _) ?_); intro v1 w1 hown1 hg1 hat1; have HB1 := Lib.hid (below_app (Below.refl w.heap.size w) (own_nil _ w.heap.size 5 1) hg1 (Nat.le_refl _) (Nat.le_refl _)); rw [List.nil_append, Nat.zero_add] at hown1; have HO1 := Lib.hid hown1; clear hown1 hg1 hat1)
  go_ret
  exact bytes_post HO1.out HB1.out

theorem bres_len (bits : Int) (ks : List (List UInt8)) : (bres bits ks).length ≤ 2621446 := by
  unfold bres
  split
  · rename_i h
    rw [buildB_length]; have := buildM_le h; omega
  · simp
theorem ures_len (a b : List UInt8) : (ures a b).length ≤ a.length := by
  unfold ures
  split
  · rw [orB_length]; omega
  · simp
theorem lit4 (w : World) (a b c d : Value) (t : TypeId) (H : Nat) (h : w.heap.size = H) : Reads (w.alloc (.cells #[a, b, c, d] t)) (H + 1) 1 (some ⟨H, 0, none⟩) 4 [a, b, c, d] := by
  subst h; exact Reads.new w #[a, b, c, d] t 1 4 rfl
/-- What the rows hold behind q rounds. -/
def contA (X Y U V : List UInt8) (q : Nat) : List (List UInt8) := (List.replicate q [X, Y, U, V]).flatten
theorem contA_succ (X Y U V : List UInt8) (q : Nat) : contA X Y U V (q + 1) = contA X Y U V q ++ [X, Y, U, V] := by
  unfold contA
  rw [List.replicate_succ', List.flatten_append]; simp
theorem contA_len (X Y U V : List UInt8) (q : Nat) : (contA X Y U V q).length = 4 * q := by
  induction q with
  | zero => rfl
  | succ q ih => rw [contA_succ, List.length_append, ih]; simp; omega
theorem cont_one {zs : RowL} {L : List (List UInt8)} (h : zs.map (·.2.2) = L) {k : Nat} {F : List UInt8} (hk : L[k]? = some F) : ∃ a ca, zs[k]? = some (a, ca, F) := by
  rw [← h, List.getElem?_map] at hk
  cases hz : zs[k]? with
  | none => rw [hz] at hk; cases hk
  | some r =>
    rw [hz] at hk; injection hk with hk
    exact ⟨r.1, r.2.1, by rw [← hk]⟩
theorem cont_at {X Y U V : List UInt8} {rs ws : RowL} (hr : rs.map (·.2.2) = contA X Y U V 2) (hw : ws.map (·.2.2) = contA X Y U V 2) : ∀ k, k < 8 → ∃ (F : List UInt8) (a a1 a2 : Option Addr) (ca c1 c2 : Nat), (F = X ∨ F = Y ∨ F = U ∨ F = V) ∧ rs[k]? = some (a, ca, F) ∧ ws[k]? = some (a1, c1, F) ∧ ws[k % 4]? = some (a2, c2, F) := fun k hk => by
  have key : ∀ (F : List UInt8), (contA X Y U V 2)[k]? = some F → (contA X Y U V 2)[k % 4]? = some F → (F = X ∨ F = Y ∨ F = U ∨ F = V) → ∃ (F : List UInt8) (a a1 a2 : Option Addr) (ca c1 c2 : Nat), (F = X ∨ F = Y ∨ F = U ∨ F = V) ∧ rs[k]? = some (a, ca, F) ∧ ws[k]? = some (a1, c1, F) ∧ ws[k % 4]? = some (a2, c2, F) := fun F h1 h2 h3 => by
    obtain ⟨a, ca, e1⟩ := cont_one hr h1
    obtain ⟨a1, c1, e2⟩ := cont_one hw h1
    obtain ⟨a2, c2, e3⟩ := cont_one hw h2
    exact ⟨F, a, a1, a2, ca, c1, c2, h3, e1, e2, e3⟩
  match k, hk with
  | 0, _ => exact key X rfl rfl (.inl rfl)
  | 1, _ => exact key Y rfl rfl (.inr (.inl rfl))
  | 2, _ => exact key U rfl rfl (.inr (.inr (.inl rfl)))
  | 3, _ => exact key V rfl rfl (.inr (.inr (.inr rfl)))
  | 4, _ => exact key X rfl rfl (.inl rfl)
  | 5, _ => exact key Y rfl rfl (.inr (.inl rfl))
  | 6, _ => exact key U rfl rfl (.inr (.inr (.inl rfl)))
  | 7, _ => exact key V rfl rfl (.inr (.inr (.inr rfl)))
theorem ApSt.mem_sl {T e : TypeId} {B : Nat} {w : World} {lv wv : Value} {rs ws ps : RowL} (h : ApSt T e B w lv wv rs ws ps) {A : Option Addr} {c n : Nat} {l : List UInt8} (hm : (A, c, l) ∈ rs ++ ws ++ ps) (hn : l.length = n) : Sl w A n c l := by
  obtain ⟨i, hi⟩ := List.getElem?_of_mem hm
  exact h.rows.sl_at hi hn
/-- The two lists, and what they hold in every world in which they stand. -/
theorem apart_out {T e : TypeId} {B : Nat} {w : World} {lv wv : Value} {rs ws : RowL} (h : ApSt T e B w lv wv rs ws []) (hr : rs.length = 8) (hw : ws.length = 8) : ∃ gl gw lc wc, lv = .slice (some ⟨gl, 0, none⟩) 8 lc ∧ wv = .slice (some ⟨gw, 0, none⟩) 8 wc ∧ RowsB T B w (rs ++ ws) ∧ gl < w.heap.size ∧ gw < w.heap.size ∧
    (∀ (i : Nat) r a, (rs ++ ws)[i]? = some r → r.1 = some a → B ≤ a.block ∧ a.block < w.heap.size ∧ a.block ≠ gl ∧ a.block ≠ gw) ∧
    (∀ x, Chg (fun b => b ≠ gl ∧ b ≠ gw) w x → ∀ (k : Nat) a ca l, rs[k]? = some (a, ca, l) → x.cell? ⟨gl, k, none⟩ = some (.slice a l.length ca)) ∧
    (∀ x, Chg (fun b => b ≠ gl ∧ b ≠ gw) w x → ∀ (k : Nat) a ca l, ws[k]? = some (a, ca, l) → x.cell? ⟨gw, k, none⟩ = some (.slice a l.length ca)) := by
  obtain ⟨hR, h1, h2, h3, h4, h5, h6⟩ := h
  rw [List.append_nil] at hR h3 h4
  rw [hr] at h1
  rw [hw] at h2
  obtain ⟨gl, lc, rfl, hl1, hl2, _⟩ := own_form h1 (by omega)
  obtain ⟨gw, wc, rfl, hw1, hw2, _⟩ := own_form h2 (by omega)
  refine ⟨gl, gw, lc, wc, rfl, rfl, hR, hl2, hw2, fun i r a hr ha => ?_, fun x hx k a ca l hk => ?_, fun x hx k a ca l hk => ?_⟩
  · have h := (hR.1 i r hr).lt ha
    exact ⟨h.1, h.2, h3 gl rfl i r a hr ha, h4 gw rfl i r a hr ha⟩
  · have hlt := (List.getElem?_eq_some_iff.1 hk).1
    exact hx.cell ((World.ownsRow.cellAt h1 k (by omega)).trans (by rw [List.getElem?_map, hk]; rfl)) (fun e => e.1 rfl)
  · have hlt := (List.getElem?_eq_some_iff.1 hk).1
    exact hx.cell ((World.ownsRow.cellAt h2 k (by omega)).trans (by rw [List.getElem?_map, hk]; rfl)) (fun e => e.2 rfl)
theorem and3 (k : Nat) (h : k < 8) : bits .and .i64 (k : Int) 3 = ((k % 4 : Nat) : Int) := by
  match k, h with
  | 0, _ => rfl
  | 1, _ => rfl
  | 2, _ => rfl
  | 3, _ => rfl
  | 4, _ => rfl
  | 5, _ => rfl
  | 6, _ => rfl
  | 7, _ => rfl

set_option maxRecDepth 100000 in
set_option maxHeartbeats 8000000 in
theorem apart_any (bits : Int) (ka kb : List (List UInt8)) (A B : Option Addr) (n c m d : Nat) (w : World) (hn : n ≤ 9223372036854775807) (hr : RBs w w.heap.size A n ka) (hm : m ≤ 9223372036854775807) (hs : RBs w w.heap.size B m kb) :
    Calls Try.prog 6 #[.int .i64 bits, .slice A n c, .slice B m d] w fun e w' => e = .returned (.bool true) ∧ Below w.heap.size w w' := by
  have HR : Hid (∀ w', Below w.heap.size w w' → RBs w' w'.heap.size A n ka) := Lib.hid fun w' h => hr.later h
  have HS : Hid (∀ w', Below w.heap.size w w' → RBs w' w'.heap.size B m kb) := Lib.hid fun w' h => hs.later h
  obtain ⟨X, hX⟩ : ∃ F, F = bres bits ka := ⟨_, rfl⟩
  obtain ⟨Y, hY⟩ : ∃ F, F = bres bits kb := ⟨_, rfl⟩
  obtain ⟨U, hU⟩ : ∃ F, F = ures X Y := ⟨_, rfl⟩
  obtain ⟨V, hV⟩ : ∃ F, F = ures X X := ⟨_, rfl⟩
  obtain ⟨LX, hLX⟩ : ∃ L, L = X.length := ⟨_, rfl⟩
  obtain ⟨LY, hLY⟩ : ∃ L, L = Y.length := ⟨_, rfl⟩
  obtain ⟨LU, hLU⟩ : ∃ L, L = U.length := ⟨_, rfl⟩
  obtain ⟨LV, hLV⟩ : ∃ L, L = V.length := ⟨_, rfl⟩
  have lx : LX ≤ 2621446 := by rw [hLX, hX]; exact bres_len _ _
  have ly : LY ≤ 2621446 := by rw [hLY, hY]; exact bres_len _ _
  have lu : LU ≤ 2621446 := by rw [hLU, hU]; exact Nat.le_trans (ures_len _ _) (hLX ▸ lx)
  have lv : LV ≤ 2621446 := by rw [hLV, hV]; exact Nat.le_trans (ures_len _ _) (hLX ▸ lx)
  have XX := Lib.hid hX
  have XY := Lib.hid hY
  have XU := Lib.hid hU
  have XV := Lib.hid hV
  have XLX := Lib.hid hLX
  have XLY := Lib.hid hLY
  have XLU := Lib.hid hLU
  have XLV := Lib.hid hLV
  have tok1 : True := trivial
  clear hr hs hX hY hU hV hLX hLY hLU hLV
  go_enter Try.func6, Try.ntmps6
  go_wp2_with (go_at_call 12; have _t := tok1; refine (started_any _).mono ?_; rintro e w0 ⟨rfl, hb0⟩; have HB0 := Lib.hid hb0; clear tok1 hb0)
  go_loopw [8, 9, 10] (fun lv wv i wr => ∃ (q : Nat) (rs ws : RowL), q ≤ 2 ∧ i = .int .i64 q ∧ Hid (rs.length = 4 * q) ∧ Hid (ws.length = 4 * q) ∧ Hid (ApSt 5 24 w.heap.size wr lv wv rs ws []) ∧ Hid (rs.map (·.2.2) = contA X Y U V q) ∧ Hid (ws.map (·.2.2) = contA X Y U V q) ∧ Hid (Below w.heap.size w wr)) (fun _ _ i _ => 2 - (intOf i).toNat)
  case atStart => exact ⟨0, [], [], by omega, rfl, Lib.hid rfl, Lib.hid rfl, Lib.hid (ApSt.nil HB0.out.size), Lib.hid rfl, Lib.hid rfl, HB0⟩
  case round =>
    obtain ⟨q, rs, ws, hq, rfl, hrl, hwl, S0, HCR, HCW, HB⟩ := hrel
    obtain ⟨lw, hlw⟩ : ∃ v, v = u8 := ⟨_, rfl⟩
    obtain ⟨ww, hww⟩ : ∃ v, v = u9 := ⟨_, rfl⟩
    rw [← hlw, ← hww] at S0 ⊢
    clear hlw hww
    by_cases hlt : q < 2
    case neg =>
      have hd : decide ((q : Int) < 2) = false := decide_eq_false (by omega)
      have hq2 : q = 2 := by omega
      have hrl : rs.length = 8 := by have := hrl.out; omega
      have hwl : ws.length = 8 := by have := hwl.out; omega
      have HCR : Hid (rs.map (·.2.2) = contA X Y U V 2) := Lib.hid (by rw [← hq2]; exact HCR.out)
      have HCW : Hid (ws.map (·.2.2) = contA X Y U V 2) := Lib.hid (by rw [← hq2]; exact HCW.out)
      clear hq2
      obtain ⟨gl, gw, lc, wc, rfl, rfl, hRW, hgl, hgw, hoff, hlc, hwc⟩ := apart_out S0.out (by omega) (by omega)
      have R8 := Lib.hid hRW
      have HOFF := Lib.hid hoff
      have HLC := Lib.hid hlc
      have HWC := Lib.hid hwc
      have HAT := Lib.hid (cont_at HCR.out HCW.out)
      have HLE : Hid (∀ F : List UInt8, (F = X ∨ F = Y ∨ F = U ∨ F = V) → F.length ≤ 2621446) := Lib.hid fun F hF => by
        rcases hF with rfl | rfl | rfl | rfl
        · rw [← XLX.out]; exact lx
        · rw [← XLY.out]; exact ly
        · rw [← XLU.out]; exact lu
        · rw [← XLV.out]; exact lv
      have HW0 : Hid (∃ a c, ws[0]? = some (a, c, X)) := Lib.hid (cont_one HCW.out rfl)
      have HW1 : Hid (∃ a c, ws[1]? = some (a, c, Y)) := Lib.hid (cont_one HCW.out rfl)
      have HW2 : Hid (∃ a c, ws[2]? = some (a, c, U)) := Lib.hid (cont_one HCW.out rfl)
      obtain ⟨wo, rfl⟩ : ∃ wo : World, wo = wr := ⟨_, rfl⟩
      clear hRW hoff hlc hwc S0 HCR HCW hq hlt
      go_wp2_with fail
      have HBS : Hid (Below w.heap.size w wo) := HB
      have hwo : w.heap.size ≤ wo.heap.size := HB.out.size
      clear HB
      go_loopw [19] (fun i wr => ∃ k : Nat, k ≤ 8 ∧ i = .int .i64 k ∧ Hid (Below wo.heap.size wo wr)) (fun i _ => 8 - (intOf i).toNat)
      case atStart => exact ⟨0, by omega, rfl, Lib.hid (Below.refl _ _)⟩
      case round =>
        obtain ⟨k, hk, rfl, HBA⟩ := hrel
        by_cases hlt : k < 8
        case neg =>
          have hd8 : decide ((k : Int) < 8) = false := decide_eq_false (by omega)
          obtain ⟨wz, rfl⟩ : ∃ wz : World, wz = wr := ⟨_, rfl⟩
          have R8 := Lib.hid (R8.out.later HBA.out)
          have HOFF : Hid (∀ (i : Nat) r a, (rs ++ ws)[i]? = some r → r.1 = some a → w.heap.size ≤ a.block ∧ a.block < wz.heap.size ∧ a.block ≠ gl ∧ a.block ≠ gw) := Lib.hid fun i r a hr ha => by
            have h := HOFF.out i r a hr ha
            exact ⟨h.1, Nat.lt_of_lt_of_le h.2.1 HBA.out.size, h.2.2⟩
          have HLC := Lib.hid (fun x (hx : Chg (fun b => b ≠ gl ∧ b ≠ gw) wz x) => HLC.out x ((Below.chg0 HBA.out).trans hx))
          have HWC := Lib.hid (fun x (hx : Chg (fun b => b ≠ gl ∧ b ≠ gw) wz x) => HWC.out x ((Below.chg0 HBA.out).trans hx))
          have HB := Lib.hid (HBS.out.trans (HBA.out.mono hwo))
          have hgl := Nat.lt_of_lt_of_le hgl HBA.out.size
          have hgw := Nat.lt_of_lt_of_le hgw HBA.out.size
          clear HBA HBS
          go_wp2_with fail
          obtain ⟨ss, hss⟩ : ∃ ss, ss = rs ++ ws := ⟨_, rfl⟩
          have HEX : Hid (∀ k, k < 8 → ∃ (F : List UInt8) (a : Option Addr) (ca : Nat), F.length ≤ 2621446 ∧ ss[k]? = some (a, ca, F) ∧ ∀ x, Chg (fun b => b ≠ gl ∧ b ≠ gw) wz x → x.cell? ⟨gl, k, none⟩ = some (.slice a F.length ca)) := Lib.hid fun k hk => by
            obtain ⟨F, a, _, _, ca, _, _, hF, e1, _, _⟩ := HAT.out k hk
            exact ⟨F, a, ca, HLE.out F hF, by rw [hss, List.getElem?_append_left (by omega)]; exact e1, fun x hx => HLC.out x hx k _ _ _ e1⟩
          have HWX : Hid (∀ (j : Nat) (F : List UInt8), (∃ a c, ws[j]? = some (a, c, F)) → ∃ (a : Option Addr) (ca : Nat), ss[8 + j]? = some (a, ca, F) ∧ ∀ x, Chg (fun b => b ≠ gl ∧ b ≠ gw) wz x → x.cell? ⟨gw, j, none⟩ = some (.slice a F.length ca)) := Lib.hid fun j F h => by
            obtain ⟨a, ca, e⟩ := h
            exact ⟨a, ca, by rw [hss, List.getElem?_append_right (by omega), show 8 + j - rs.length = j from by omega]; exact e, fun x hx => HWC.out x hx j _ _ _ e⟩
          have HWX0 := Lib.hid (HWX.out 0 X HW0.out)
          have HWX1 := Lib.hid (HWX.out 1 Y HW1.out)
          have HWX2 := Lib.hid (HWX.out 2 U HW2.out)
          rw [← hss] at R8 HOFF
          have HBo : Hid (w.heap.size ≤ wz.heap.size) := Lib.hid HB.out.size
          clear hss HAT HLC HWC HW0 HW1 HW2 HWX HLE hk hlt hrl hwl hd hd8
          go_loopw [20] (fun i wr => ∃ k : Nat, k ≤ 8 ∧ i = .int .i64 k ∧ Hid (RowsB 5 w.heap.size wr (fillR mk11 ss k)) ∧ Hid (Chg (fun b => b ≠ gl ∧ b ≠ gw) wz wr) ∧ Hid (Below w.heap.size w wr)) (fun i _ => 8 - (intOf i).toNat)
          case atStart => exact ⟨0, by omega, rfl, Lib.hid (by rw [fillR_zero]; exact R8.out), Lib.hid (Chg.refl _ _), HB⟩
          case round =>
            clear HB
            obtain ⟨k, hk, rfl, HRW, HC, HB⟩ := hrel
            by_cases hlt : k < 8
            case neg =>
              have hd : decide ((k : Int) < 8) = false := decide_eq_false (by omega)
              have hk8 : k = 8 := by omega
              obtain ⟨r2, hr2⟩ : ∃ r2, r2 = fillR mk11 ss k := ⟨_, rfl⟩
              rw [← hr2] at HRW
              have HEX4 : Hid (∀ k, k < 8 → ∀ a ca (F : List UInt8), ss[k]? = some (a, ca, F) → r2[k]? = some (a, ca, List.replicate F.length (mk11 k))) := Lib.hid fun i hi a ca F h => by
                rw [hr2, fillR_get, h, hk8]; simp [hi]
              have HW4 : Hid (∀ (j : Nat) a ca (F : List UInt8), ss[8 + j]? = some (a, ca, F) → r2[8 + j]? = some (a, ca, F)) := Lib.hid fun j a ca F h => by
                rw [hr2, fillR_get, h, hk8]
                show some (if 8 + j < 8 then _ else _) = _
                rw [if_neg (by omega)]
              have HL4 : Hid (∀ (i : Nat) r a, r2[i]? = some r → r.1 = some a → a.block < wz.heap.size ∧ a.block ≠ gl ∧ a.block ≠ gw) := Lib.hid fun i r a hr ha => by
                rw [hr2, fillR_get] at hr
                cases h : ss[i]? with
                | none => rw [h] at hr; cases hr
                | some q =>
                  rw [h] at hr; injection hr with hr
                  have e : q.1 = some a := by
                    rw [← ha, ← hr]; split <;> rfl
                  exact (HOFF.out i q a h e).2
              obtain ⟨wp, rfl⟩ : ∃ wp : World, wp = wr := ⟨_, rfl⟩
              obtain ⟨H3, hH3⟩ : ∃ H, H = wp.heap.size := ⟨_, rfl⟩
              have hg3 : gl < H3 ∧ gw < H3 := by have := HC.out.size; omega
              have HL3 : Hid (∀ (i : Nat) r a, r2[i]? = some r → r.1 = some a → a.block < H3) := Lib.hid fun i r a hr ha => by have := (HL4.out i r a hr ha).1; have := HC.out.size; omega
              have HSZ3 : Hid (w.heap.size ≤ H3) := Lib.hid (by have := HB.out.size; omega)
              have hH3' : H3 ≤ wp.heap.size := by omega
              clear hr2 hH3 hk8 hk hlt
              go_wp2_with fail
              go_loopw [22, 23] (fun v i wr => ∃ (q : Nat) (vs : List Value), q ≤ 8 ∧ i = .int .i64 q ∧ wr.ownsRow H3 24 1 v q vs ∧ Hid (RowsB 5 w.heap.size wr r2) ∧ Hid (FamS wr v.ownBlock vs (moreL mk11 ss q)) ∧ Hid (Aps r2 q vs) ∧ Hid (Chg (fun b => b ≠ gl ∧ b ≠ gw) wz wr) ∧ Hid (Below w.heap.size w wr) ∧ Hid (H3 ≤ wr.heap.size)) (fun _ i _ => 8 - (intOf i).toNat)
              case atStart => exact ⟨0, [], by omega, rfl, own_nil _ _ _ _, HRW, Lib.hid FamS.nil, Lib.hid (Aps.nil _), HC, HB, Lib.hid hH3'⟩
              case round =>
                clear HRW HC HB hH3' hd
                obtain ⟨q, vs, hq, rfl, hown, HRW, HF, HA, HC, HB, HH⟩ := hrel
                by_cases hlt : q < 8
                case neg =>
                  have hd : decide ((q : Int) < 8) = false := decide_eq_false (by omega)
                  have hq8 : 8 ≤ q := by omega
                  obtain ⟨Am, cm, hv, _, _, _, hrm⟩ := own_slice hown
                  subst hv
                  obtain ⟨bm, om, rfl, hbm, hcm⟩ := hrm.2 (by omega)
                  obtain ⟨wq, rfl⟩ : ∃ wq : World, wq = wr := ⟨_, rfl⟩
                  have HCM : Hid (∀ x, Below wq.heap.size wq x → ∀ j u, vs[j]? = some u → x.cell? ⟨bm, om + j, none⟩ = some u) := Lib.hid fun x hx j u hu => (hx.cell (p := ⟨bm, om + j, none⟩) hbm).trans (hcm j u hu)
                  obtain ⟨wa0, wd0, e0, hw0⟩ := HWX0.out
                  obtain ⟨wa1, wd1, e1, hw1⟩ := HWX1.out
                  obtain ⟨wa2, wd2, e2, hw2⟩ := HWX2.out
                  rw [← XLX.out] at hw0
                  rw [← XLY.out] at hw1
                  rw [← XLU.out] at hw2
                  have W0 := Lib.hid (HRW.out.sl_at (HW4.out 0 _ _ _ e0) XLX.out.symm)
                  have W1 := Lib.hid (HRW.out.sl_at (HW4.out 1 _ _ _ e1) XLY.out.symm)
                  have W2 := Lib.hid (HRW.out.sl_at (HW4.out 2 _ _ _ e2) XLU.out.symm)
                  have C0 := Lib.hid hw0
                  have C1 := Lib.hid hw1
                  have C2 := Lib.hid hw2
                  have XSX : Hid ((X == X) = true) := Lib.hid (by simp)
                  have XSY : Hid ((Y == Y) = true) := Lib.hid (by simp)
                  have XSU : Hid ((U == U) = true) := Lib.hid (by simp)
                  clear hown hrm hbm hcm e0 e1 e2 hw0 hw1 hw2 hd
                  have tB : True := trivial
                  have tX : True := trivial
                  have tY : True := trivial
                  go_upto_region 32 with (first
                    | (go_at_call 13; have _t := tB; go_must (refine (build_any bits ka A n c _ hn (HR.out _ HB.out)).mono ?_); rintro e w3 hp; have hp := build_post hp; rw [← XX.out] at hp; obtain ⟨A3, c3, rfl, hS3, _, hb3⟩ := hp.at_ XLX.out.symm rfl; have HB3 := Lib.hid (HB.out.trans (hb3.mono HB.out.size)); have T3 := Lib.hid hS3; have K3 := Lib.hid hb3; clear tB hp hb3 hS3)
                    | (go_at_call 13; go_must (refine (build_any bits kb B m d _ hm (HS.out _ HB3.out)).mono ?_); rintro e w4 hp; have hp := build_post hp; rw [← XY.out] at hp; obtain ⟨A4, c4, rfl, hS4, _, hb4⟩ := hp.at_ XLY.out.symm rfl; have HB4 := Lib.hid (HB3.out.trans (hb4.mono HB3.out.size)); have T4 := Lib.hid hS4; have T3b := Lib.hid (T3.out.later hb4); have K4 := Lib.hid (K3.out.trans (hb4.mono K3.out.size)); clear hp hb4 hS4)
                    | (go_at_call 18; go_must (refine (union_any X Y A3 A4 LX c3 LY c4 _ (by omega) T3b.out.rb (by omega) T4.out.rb).mono ?_); rintro e w6 hp; have hp := union_post hp; rw [← XU.out] at hp; obtain ⟨A6, c6, rfl, hS6, _, hb6⟩ := hp.at_ XLU.out.symm rfl; have HB6 := Lib.hid (HB4.out.trans (hb6.mono HB4.out.size)); have T6 := Lib.hid hS6; have T3c := Lib.hid (T3b.out.later hb6); have T4c := Lib.hid (T4.out.later hb6); have K6 := Lib.hid (K4.out.trans (hb6.mono K4.out.size)); clear hp hb6 hS6))
                  have HC6 : Hid (Chg (fun b => b ≠ gl ∧ b ≠ gw) wz w6) := Lib.hid (HC.out.trans (Below.chg0 K6.out))
                  have g0 := C0.out w6 HC6.out
                  have g1 := C1.out w6 HC6.out
                  have g2 := C2.out w6 HC6.out
                  have HRW6 := Lib.hid (HRW.out.later K6.out)
                  have HF6 := Lib.hid (HF.out.later K6.out)
                  clear HRW HF
                  go_wp2_with (first
                    | (go_at_call 15; have _t := tX; go_must (refine (alike_any X X A3 wa0 LX c3 LX wd0 _ T3c.out.rb (W0.out.later K6.out).rb).mono ?_); rw [XSX.out]; rintro e wn ⟨rfl, rfl⟩; clear tX)
                    | (go_at_call 15; have _t := tY; go_must (refine (alike_any Y Y A4 wa1 LY c4 LY wd1 _ T4c.out.rb (W1.out.later K6.out).rb).mono ?_); rw [XSY.out]; rintro e wn ⟨rfl, rfl⟩; clear tY)
                    | (go_at_call 15; go_must (refine (alike_any U U A6 wa2 LU c6 LU wd2 _ T6.out.rb (W2.out.later K6.out).rb).mono ?_); rw [XSU.out]; rintro e wn ⟨rfl, rfl⟩))
                  clear g0 g1 g2 T3 T3b T3c T4 T4c T6 W0 W1 W2 C0 C1 C2
                  go_loop [30] (fun i => ∃ k : Nat, k ≤ 8 ∧ i = .int .i64 k) (fun i => 8 - (intOf i).toNat)
                  case atStart => exact ⟨0, by omega, rfl⟩
                  case round =>
                    obtain ⟨k, hk, rfl⟩ := hrel
                    by_cases hlt : k < 8
                    case neg =>
                      have hd : decide ((k : Int) < 8) = false := decide_eq_false (by omega)
                      go_wp2_with (go_at_call 12; go_must (refine (started_any _).mono ?_); rintro e w10 ⟨rfl, hb10⟩; have HB10 := Lib.hid (HB6.out.trans (hb10.mono HB6.out.size)); clear hb10)
                      go_ret
                      exact ⟨rfl, HB10.out⟩
                    have hd : decide ((k : Int) < 8) = true := decide_eq_true (by omega)
                    obtain ⟨F, a, ca, hlf, hsk, hcc⟩ := HEX.out k hlt
                    obtain ⟨LF, hLF⟩ : ∃ L, L = F.length := ⟨_, rfl⟩
                    have hrk := HEX4.out k hlt _ _ _ hsk
                    have hcell := hcc w6 HC6.out
                    obtain ⟨a', c', hvk, hsl⟩ := HF6.out.at_ (moreL_at mk11 (show k < q by omega) hsk)
                    rw [List.length_replicate] at hvk hsl
                    rw [← hLF] at hrk hcell hvk hsl hlf
                    have hcm := HCM.out w6 K6.out k _ hvk
                    have HRK := Lib.hid hrk
                    have HSL := Lib.hid hsl
                    have HMN := Lib.hid (mk11_nat k (by omega))
                    clear hsk hrk hvk hsl hcc hLF
                    go_wp2_with fail
                    go_loop [31] (fun i => ∃ j : Nat, j ≤ 2 * LF + 70 ∧ i = .int .i64 j) (fun i => 2 * LF + 70 - (intOf i).toNat)
                    case atStart => exact ⟨0, by omega, rfl⟩
                    case round =>
                      obtain ⟨j, hj, rfl⟩ := hrel
                      by_cases hjl : j < 2 * LF + 70
                      case neg =>
                        have hd2 : decide ((j : Int) < 2 * (LF : Int) + 70) = false := decide_eq_false (by omega)
                        go_wp2_with fail
                        go_round
                        case rel => exact ⟨k + 1, by omega, by go_num⟩
                        case measure => simp [intOf]; omega
                      have hd2 : decide ((j : Int) < 2 * (LF : Int) + 70) = true := decide_eq_true (by omega)
                      obtain ⟨b, o, x, e', _, hx, hcx⟩ := HSL.out.rb.at_ hjl
                      subst e'
                      rw [rep_at _ _ hjl] at hx
                      injection hx with hx
                      subst hx
                      rw [HMN.out] at hcx
                      by_cases hjL : j < LF
                      · have hd3 : decide ((j : Int) < (LF : Int)) = true := decide_eq_true (by omega)
                        obtain ⟨gk, rfl, _, _⟩ := HRW6.out.form HRK.out (by rw [List.length_replicate]; omega)
                        have hck := (HRW6.out.cell HRK.out (rep_at LF (mk11 k) hjL)).1
                        rw [HMN.out] at hck
                        go_wp2_with fail
                        go_round
                        case rel => exact ⟨j + 1, by omega, by go_num⟩
                        case measure => simp [intOf]; omega
                      · have hd3 : decide ((j : Int) < (LF : Int)) = false := decide_eq_false (by omega)
                        go_wp2_with fail
                        go_round
                        case rel => exact ⟨j + 1, by omega, by go_num⟩
                        case measure => simp [intOf]; omega
                have hd : decide ((q : Int) < 8) = true := decide_eq_true (by omega)
                obtain ⟨F, a, ca, hlf, hsk, hcc⟩ := HEX.out q hlt
                obtain ⟨LF, hLF⟩ : ∃ L, L = F.length := ⟨_, rfl⟩
                have hrk := HEX4.out q hlt _ _ _ hsk
                have hcell := hcc wr HC.out
                rw [← hLF] at hrk hcell hlf
                have HOK := Lib.hid (HRW.out.1 q _ hrk)
                have HRK := Lib.hid hrk
                have HMN := Lib.hid (mk11_nat q (by omega))
                have HGK : Hid (∀ b, a = some b → b.block ≠ gl ∧ b.block ≠ gw) := Lib.hid fun b hb => (HL4.out q _ b hrk hb).2
                have HHG : Hid (∀ b, a = some b → b.block < H3) := Lib.hid fun b hb => HL3.out q _ b hrk hb
                have HGE : Hid (∀ b, a = some b → w.heap.size ≤ b.block) := Lib.hid fun b hb => ((HRW.out.1 q _ hrk).lt hb).1
                obtain ⟨v, hv⟩ : ∃ v, v = u22 := ⟨_, rfl⟩
                rw [← hv] at hown HF ⊢
                have HO := Lib.hid hown
                have HLEN : Hid ((List.replicate LF (mk11 q) ++ List.replicate (LF + 70) (mk11 q)).length = 2 * LF + 70) := Lib.hid (by simp; omega)
                have HBS : Hid (w.heap.size ≤ wr.heap.size) := Lib.hid HB.out.size
                have HML : Hid (moreL mk11 ss (q + 1) = moreL mk11 ss q ++ [List.replicate LF (mk11 q) ++ List.replicate (LF + 70) (mk11 q)]) := Lib.hid (by
                  rw [moreL_succ mk11 hsk, ← hLF, List.replicate_append_replicate]; congr 3; omega)
                clear hv hown hsk hrk hcc hLF
                go_wp2_with (first
                  | (go_at_call 19; go_must (refine (grown_of w.heap.size (List.replicate LF (mk11 q)) a LF ca (mk11 q) _ HMN.out.symm _ HOK.out (List.length_replicate ..) (by omega) HBS.out).mono ?_); rintro e w2 ⟨A', c', rfl, hs2, ho2, hg2, hblk⟩; have HS2 := Lib.hid hs2; have HO2 := Lib.hid ho2; have HG2 := Lib.hid hg2; have HBK := Lib.hid hblk; clear hs2 ho2 hg2 hblk)
                  | (at_builtin; go_must (refine wpList_append_reads _ rfl (.tmp 132) (.tmp 141) rfl Try.keyss H3 v q vs rfl ((more_own2 HO.out HG2.out HHG.out).alloc _) (w2.heap.size + 1) (some ⟨w2.heap.size, 0, none⟩) 1 1 [.slice A' (2 * LF + 70) c'] rfl (lit_one8 _ _ _ _ rfl) (by simp [Value.oneCell']) (by unfold maxLen; omega) (by omega) (by have := HH.out; have := HG2.out.size; simp; omega) ?_); intro v3 w3 hown3 hg3 hat3; have HST := Lib.hid (more_step2 HLEN.out HRW.out HRK.out HF.out HA.out HO.out HL3.out HH.out HG2.out HO2.out HS2.out HBK.out hg3 hat3); have HO3 := Lib.hid hown3; clear hown3 hg3 hat3))
                have hO3 := HO3.out
                have HC3 := Lib.hid (HST.out.2.2.2 (fun b => b ≠ gl ∧ b ≠ gw) HGK.out fun b h => ⟨by omega, by omega⟩)
                have HB3 := Lib.hid (HB.out.trans ((HST.out.2.2.2 (fun b => w.heap.size ≤ b) HGE.out fun b h => by have := HSZ3.out; omega).below HBS.out fun b _ h => h))
                clear HO3
                go_roundw
                case rel => exact ⟨q + 1, vs ++ [.slice A' (2 * LF + 70) c'], by omega, by go_num, hO3, Lib.hid HST.out.1, Lib.hid (by rw [HML.out]; exact HST.out.2.1), Lib.hid HST.out.2.2.1, Lib.hid (HC.out.trans HC3.out), HB3, Lib.hid (Nat.le_trans HH.out HC3.out.size)⟩
                case measure => simp [intOf]; omega
            have hd : decide ((k : Int) < 8) = true := decide_eq_true (by omega)
            obtain ⟨F, a, ca, hlf, hsk, hcc⟩ := HEX.out k hlt
            obtain ⟨LF, hLF⟩ : ∃ L, L = F.length := ⟨_, rfl⟩
            rw [← hLF] at hcc hlf
            have XLF := Lib.hid hLF
            have hmv := mk11_v k (by omega)
            have HMV := Lib.hid hmv
            have HSK := Lib.hid hsk
            have HCC := Lib.hid hcc
            have HGB : Hid (∀ b, a = some b → w.heap.size ≤ b.block ∧ b.block ≠ gl ∧ b.block ≠ gw) := Lib.hid fun b hb => by
              have h := HOFF.out k _ b hsk hb
              exact ⟨h.1, h.2.2⟩
            have hcell := hcc wr HC.out
            clear hsk hmv hLF hcc
            go_wp2_with fail
            go_loopw [21] (fun q wr => ∃ j : Nat, j ≤ LF ∧ q = .int .i64 j ∧ Hid (RowsB 5 w.heap.size wr ((fillR mk11 ss k).set k (a, ca, fillTo F (mk11 k) j))) ∧ Hid (Chg (fun b => b ≠ gl ∧ b ≠ gw) wz wr) ∧ Hid (Below w.heap.size w wr)) (fun q _ => LF - (intOf q).toNat)
            case atStart => exact ⟨0, by omega, rfl, Lib.hid (by rw [fillR_start HSK.out]; exact HRW.out), HC, HB⟩
            case round =>
              obtain ⟨j, hj, rfl, HRJ, HCJ, HBJ⟩ := hrel
              have hcell2 := HCC.out wr HCJ.out
              clear hcell
              by_cases hjl : j < LF
              case neg =>
                obtain rfl : j = LF := by omega
                have HDONE : Hid (RowsB 5 w.heap.size wr (fillR mk11 ss (k + 1))) := Lib.hid (by
                  have h := HRJ.out
                  rw [XLF.out, fillR_done HSK.out] at h
                  exact h)
                have hd2 : decide ((j : Int) < (j : Int)) = false := decide_eq_false (by omega)
                go_wp2_with fail
                go_roundw
                case rel => exact ⟨k + 1, by omega, by go_num, HDONE, HCJ, HBJ⟩
                case measure => simp [intOf]; omega
              have hjF : j < F.length := by rw [← XLF.out]; exact hjl
              obtain ⟨gk, rfl, hgk1, hgk2⟩ := HRJ.out.form (i := k) (l := fillTo F (mk11 k) j) (by rw [List.getElem?_set, if_pos rfl, if_pos (by rw [fillR_len]; exact (List.getElem?_eq_some_iff.1 HSK.out).1)]) (by rw [fillTo_len _ (by omega)]; omega)
              have HG3 : Hid (gk ≠ gl ∧ gk ≠ gw) := Lib.hid (HGB.out _ rfl).2
              have HG1 := Lib.hid hgk1
              obtain ⟨u, hu⟩ : ∃ u, (fillTo F (mk11 k) j)[j]? = some u := ⟨_, List.getElem?_eq_getElem (by rw [fillTo_len _ (by omega)]; exact hjF)⟩
              obtain ⟨hcu, hfu⟩ := HRJ.out.cell (i := k) (g := gk) (c := ca) (by rw [List.getElem?_set, if_pos rfl, if_pos (by rw [fillR_len]; exact (List.getElem?_eq_some_iff.1 HSK.out).1)]) hu
              have hst := HRJ.out.fill HSK.out hjF
              rw [HMV.out] at hst
              have HST := Lib.hid hst
              clear hst hu hjF hgk1 hgk2
              go_wp2_with fail
              go_roundw
              case rel => exact ⟨j + 1, by omega, by go_num, Lib.hid HST.out.1, Lib.hid (HCJ.out.trans (HST.out.2.mono fun b _ e => by rw [e]; exact HG3.out)), Lib.hid (HBJ.out.setCell (p := ⟨gk, j, none⟩) HG1.out _)⟩
              case measure => simp [intOf]; omega
        have hd8 : decide ((k : Int) < 8) = true := decide_eq_true (by omega)
        obtain ⟨F, a, a1, a2, ca, c1, c2, _, e1, e2, e3⟩ := HAT.out k hlt
        have hc1 := HLC.out wr (Below.chg0 HBA.out) k _ _ _ e1
        have hc2 := HWC.out wr (Below.chg0 HBA.out) k _ _ _ e2
        have hc3 := HWC.out wr (Below.chg0 HBA.out) (k % 4) _ _ _ e3
        have T1 := Lib.hid (Sl.later (w' := wr) (R8.out.sl (i := k) (by rw [List.getElem?_append_left (by omega)]; exact e1)) HBA.out)
        have T2 := Lib.hid (Sl.later (w' := wr) (R8.out.sl (i := 8 + k) (by rw [List.getElem?_append_right (by omega), show 8 + k - rs.length = k from by omega]; exact e2)) HBA.out)
        have T3 := Lib.hid (Sl.later (w' := wr) (R8.out.sl (i := 8 + k % 4) (by rw [List.getElem?_append_right (by omega), show 8 + k % 4 - rs.length = k % 4 from by omega]; exact e3)) HBA.out)
        obtain ⟨LF, hLF⟩ : ∃ L, L = F.length := ⟨_, rfl⟩
        rw [← hLF] at hc1 hc2 hc3 T1 T2 T3
        have XS : Hid ((F == F) = true) := Lib.hid (by simp)
        have tok2 : True := trivial
        clear e1 e2 e3 hLF
        obtain ⟨r, hr⟩ : ∃ r, r = k % 4 := ⟨_, rfl⟩
        have hand := and3 k hlt
        rw [← hr] at hand hc3
        have hr4 : r < 4 := by omega
        have hr5 : (r : Int) < 8 := by omega
        have hr6 : (0 : Int) ≤ (r : Int) := by omega
        have hk5 : (k : Int) < 8 := by omega
        have hk6 : (0 : Int) ≤ (k : Int) := by omega
        clear hr
        go_wp2_with fail
        go_region_held3 (fun w' => w'.cell? ⟨gl, k, none⟩ = some (.slice a LF ca) ∧ w'.cell? ⟨gw, k, none⟩ = some (.slice a1 LF c1) ∧ w'.cell? ⟨gw, r, none⟩ = some (.slice a2 LF c2) ∧ Below wr.heap.size wr w') (first | assumption | exact ⟨hc1, hc2, hc3, (Below.refl _ _).drew⟩) (first
          | (go_at_call 15; have _t := tok2; refine (alike_any F F a a1 LF ca LF c1 _ (T1.out.later (And.right (And.right (And.right ‹_ ∧ _ ∧ _ ∧ Below wr.heap.size wr _›)))).rb (T2.out.later (And.right (And.right (And.right ‹_ ∧ _ ∧ _ ∧ Below wr.heap.size wr _›)))).rb).mono ?_; rw [XS.out]; rintro e wn ⟨rfl, rfl⟩; clear tok2)
          | (go_at_call 15; refine (alike_any F F a1 a2 LF c1 LF c2 _ (T2.out.later (And.right (And.right (And.right ‹_ ∧ _ ∧ _ ∧ Below wr.heap.size wr _›)))).rb (T3.out.later (And.right (And.right (And.right ‹_ ∧ _ ∧ _ ∧ Below wr.heap.size wr _›)))).rb).mono ?_; rw [XS.out]; rintro e wn ⟨rfl, rfl⟩))
        all_goals
          have HB9 := Lib.hid (HBA.out.trans ((And.right (And.right (And.right ‹_ ∧ _ ∧ _ ∧ Below wr.heap.size wr _›))).mono HBA.out.size))
          go_wp2_with fail
          go_roundw
          case rel => exact ⟨k + 1, by omega, by go_num, HB9⟩
          case measure => simp [intOf]; omega
    have hd : decide ((q : Int) < 2) = true := decide_eq_true (by omega)
    have tB : True := trivial
    have tU : True := trivial
    have tC1 : True := trivial
    have tC2 : True := trivial
    have tC3 : True := trivial
    go_wp2_with (first
      | (go_at_call 13; have _t := tB; go_must (refine (build_any bits ka A n c _ hn (HR.out _ HB.out)).mono ?_); rintro e w3 hp; have hp := build_post hp; rw [← XX.out] at hp; obtain ⟨A3, c3, rfl, _, hO3, hb3⟩ := hp.at_ XLX.out.symm rfl; have HB3 := Lib.hid (HB.out.trans (hb3.mono HB.out.size)); have hS := S0.out.fresh hb3 hO3; have S1 : Hid (ApSt 5 24 w.heap.size w3 lw ww rs ws [(A3, c3, X)]) := Lib.hid hS; clear hS; clear tB hp hb3 hO3)
      | (go_at_call 13; go_must (refine (build_any bits kb B m d _ hm (HS.out _ HB3.out)).mono ?_); rintro e w4 hp; have hp := build_post hp; rw [← XY.out] at hp; obtain ⟨A4, c4, rfl, _, hO4, hb4⟩ := hp.at_ XLY.out.symm rfl; have HB4 := Lib.hid (HB3.out.trans (hb4.mono HB3.out.size)); have hS := S1.out.fresh hb4 hO4; have S2 : Hid (ApSt 5 24 w.heap.size w4 lw ww rs ws [(A3, c3, X), (A4, c4, Y)]) := Lib.hid hS; clear hS; clear hp hb4 hO4)
      | (go_at_call 18; have _t := tU; go_must (refine (union_any X Y A3 A4 LX c3 LY c4 _ (by omega) (S2.out.mem_sl (A := A3) (c := c3) (l := X) (by simp) XLX.out.symm).rb (by omega) (S2.out.mem_sl (A := A4) (c := c4) (l := Y) (by simp) XLY.out.symm).rb).mono ?_); rintro e w6 hp; have hp := union_post hp; rw [← XU.out] at hp; obtain ⟨A6, c6, rfl, _, hO6, hb6⟩ := hp.at_ XLU.out.symm rfl; have HB6 := Lib.hid (HB4.out.trans (hb6.mono HB4.out.size)); have hS := S2.out.fresh hb6 hO6; have S3 : Hid (ApSt 5 24 w.heap.size w6 lw ww rs ws [(A3, c3, X), (A4, c4, Y), (A6, c6, U)]) := Lib.hid hS; clear hS; clear tU hp hb6 hO6)
      | (go_at_call 18; go_must (refine (union_any X X A3 A3 LX c3 LX c3 _ (by omega) (S3.out.mem_sl (A := A3) (c := c3) (l := X) (by simp) XLX.out.symm).rb (by omega) (S3.out.mem_sl (A := A3) (c := c3) (l := X) (by simp) XLX.out.symm).rb).mono ?_); rintro e w7 hp; have hp := union_post hp; rw [← XV.out] at hp; obtain ⟨A7, c7, rfl, _, hO7, hb7⟩ := hp.at_ XLV.out.symm rfl; have HB7 := Lib.hid (HB6.out.trans (hb7.mono HB6.out.size)); have hS := S3.out.fresh hb7 hO7; have S4 : Hid (ApSt 5 24 w.heap.size w7 lw ww rs ws [(A3, c3, X), (A4, c4, Y), (A6, c6, U), (A7, c7, V)]) := Lib.hid hS; clear hS; have tok2 : True := trivial; clear hp hb7 hO7)
      | (at_builtin; have _t := tok2; go_must (refine wpList_append_reads _ rfl (.tmp 61) (.tmp 66) rfl Try.keyss w.heap.size lw rs.length (rs.map valR) rfl (S4.out.ol.alloc _) (w7.heap.size + 1) (some ⟨w7.heap.size, 0, none⟩) 4 4 [.slice A3 LX c3, .slice A4 LY c4, .slice A6 LU c6, .slice A7 LV c7] rfl (lit4 _ _ _ _ _ _ _ rfl) (by simp [Value.oneCell']) (by have := hrl.out; unfold maxLen; omega) (by have := hrl.out; omega) (by have := HB7.out.size; simp; omega) ?_); intro lw5 w8 hown8 hg8 hat8; have HB8 := Lib.hid ((HB7.out.alloc HB7.out.size (.cells #[.slice A3 LX c3, .slice A4 LY c4, .slice A6 LU c6, .slice A7 LV c7] 24)).grown hg8 (by have := HB7.out.size; simp; omega) (fun g hg => (World.ownsRow.lt S4.out.ol g hg).1)); have S5 := Lib.hid (S4.out.appL (v' := lw5) rfl (by simp only [List.map_cons, List.map_nil, valR, ← XLX.out, ← XLY.out, ← XLU.out, ← XLV.out]) hown8 hg8 hat8); clear tok2 hown8 hg8 hat8)
      | (go_at_call 20; have _t := tC1; go_must (refine (copied_any X A3 LX c3 _ (by omega) (S5.out.mem_sl (A := A3) (c := c3) (l := X) (by simp) XLX.out.symm).rb).mono ?_); rintro e w9 hp; obtain ⟨A9, c9, rfl, _, hO9, hb9⟩ := hp.at_ XLX.out.symm; have HB9 := Lib.hid (HB8.out.trans (hb9.mono HB8.out.size)); have hS := S5.out.fresh hb9 hO9; have S6 : Hid (ApSt 5 24 w.heap.size w9 lw5 ww (rs ++ [(A3, c3, X), (A4, c4, Y), (A6, c6, U), (A7, c7, V)]) ws [(A9, c9, X)]) := Lib.hid hS; clear hS; clear tC1 hp hb9 hO9)
      | (go_at_call 20; have _t := tC2; go_must (refine (copied_any Y A4 LY c4 _ (by omega) (S6.out.mem_sl (A := A4) (c := c4) (l := Y) (by simp) XLY.out.symm).rb).mono ?_); rintro e w10 hp; obtain ⟨A10, c10, rfl, _, hO10, hb10⟩ := hp.at_ XLY.out.symm; have HB10 := Lib.hid (HB9.out.trans (hb10.mono HB9.out.size)); have hS := S6.out.fresh hb10 hO10; have S7 : Hid (ApSt 5 24 w.heap.size w10 lw5 ww (rs ++ [(A3, c3, X), (A4, c4, Y), (A6, c6, U), (A7, c7, V)]) ws [(A9, c9, X), (A10, c10, Y)]) := Lib.hid hS; clear hS; clear tC2 hp hb10 hO10)
      | (go_at_call 20; have _t := tC3; go_must (refine (copied_any U A6 LU c6 _ (by omega) (S7.out.mem_sl (A := A6) (c := c6) (l := U) (by simp) XLU.out.symm).rb).mono ?_); rintro e w11 hp; obtain ⟨A11, c11, rfl, _, hO11, hb11⟩ := hp.at_ XLU.out.symm; have HB11 := Lib.hid (HB10.out.trans (hb11.mono HB10.out.size)); have hS := S7.out.fresh hb11 hO11; have S8 : Hid (ApSt 5 24 w.heap.size w11 lw5 ww (rs ++ [(A3, c3, X), (A4, c4, Y), (A6, c6, U), (A7, c7, V)]) ws [(A9, c9, X), (A10, c10, Y), (A11, c11, U)]) := Lib.hid hS; clear hS; clear tC3 hp hb11 hO11)
      | (go_at_call 20; go_must (refine (copied_any V A7 LV c7 _ (by omega) (S8.out.mem_sl (A := A7) (c := c7) (l := V) (by simp) XLV.out.symm).rb).mono ?_); rintro e w12 hp; obtain ⟨A12, c12, rfl, _, hO12, hb12⟩ := hp.at_ XLV.out.symm; have HB12 := Lib.hid (HB11.out.trans (hb12.mono HB11.out.size)); have hS := S8.out.fresh hb12 hO12; have S9 : Hid (ApSt 5 24 w.heap.size w12 lw5 ww (rs ++ [(A3, c3, X), (A4, c4, Y), (A6, c6, U), (A7, c7, V)]) ws [(A9, c9, X), (A10, c10, Y), (A11, c11, U), (A12, c12, V)]) := Lib.hid hS; clear hS; clear hp hb12 hO12)
      | (at_builtin; go_must (refine wpList_append_reads _ rfl (.tmp 68) (.tmp 77) rfl Try.keyss w.heap.size ww ws.length (ws.map valR) rfl (S9.out.ow.alloc _) (w12.heap.size + 1) (some ⟨w12.heap.size, 0, none⟩) 4 4 [.slice A9 LX c9, .slice A10 LY c10, .slice A11 LU c11, .slice A12 LV c12] rfl (lit4 _ _ _ _ _ _ _ rfl) (by simp [Value.oneCell']) (by have := hwl.out; unfold maxLen; omega) (by have := hwl.out; omega) (by have := HB12.out.size; simp; omega) ?_); intro ww5 w13 hown13 hg13 hat13; have HB13 := Lib.hid ((HB12.out.alloc HB12.out.size (.cells #[.slice A9 LX c9, .slice A10 LY c10, .slice A11 LU c11, .slice A12 LV c12] 24)).grown hg13 (by have := HB12.out.size; simp; omega) (fun g hg => (World.ownsRow.lt S9.out.ow g hg).1)); have S10 := Lib.hid (S9.out.appW (v' := ww5) rfl (by simp only [List.map_cons, List.map_nil, valR, ← XLX.out, ← XLY.out, ← XLU.out, ← XLV.out]) hown13 hg13 hat13); clear hown13 hg13 hat13))
    go_roundw
    case rel => exact ⟨q + 1, _, _, by omega, by go_num, Lib.hid (by rw [List.length_append, hrl.out]; rfl), Lib.hid (by rw [List.length_append, hwl.out]; rfl), S10, Lib.hid (by rw [List.map_append, HCR.out, contA_succ]; rfl), Lib.hid (by rw [List.map_append, HCW.out, contA_succ]; rfl), HB13⟩
    case measure => simp [intOf]; omega

end Go.Proofs.Ythjjihipodhkiaa
