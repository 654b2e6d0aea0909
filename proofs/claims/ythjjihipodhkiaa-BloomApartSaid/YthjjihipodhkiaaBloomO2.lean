/-
  BloomOwn, walked.
-/
import Derived.Test.YthjjihipodhkiaaKit8
import Derived.Test.YthjjihipodhkiaaBloomO1
import Derived.Deep.DeepCutAuto
namespace Go.Proofs.Ythjjihipodhkiaa
open Go.RowKit

def mk11 (i : Nat) : UInt8 := UInt8.ofNat (11 + i)
theorem u8v_mod8 (s : Nat) : u8v (UInt8.ofNat s) = .int .u8 ((s : Int) % 256) := by
  unfold u8v
  rw [UInt8.toNat_ofNat', Int.natCast_emod]; rfl
theorem mk11_v (i : Nat) (h : i < 200) : u8v (mk11 i) = .int .u8 (11 + (i : Int)) := by
  unfold mk11
  rw [u8v_mod8]
  rw [show (((11 + i : Nat) : Int) % 256) = 11 + (i : Int) from by omega]
theorem mk11_nat (i : Nat) (h : i < 200) : ((mk11 i).toNat : Int) = 11 + (i : Int) := by
  unfold mk11
  rw [UInt8.toNat_ofNat', Nat.mod_eq_of_lt (by omega)]; omega
theorem own_facts {bits : Int} {ks : List (List UInt8)} (h : buildE bits ks = 0) : unionE (buildB bits ks) (buildB bits ks) = 0 ∧ ures (buildB bits ks) (buildB bits ks) = buildB bits ks ∧ (buildB bits ks).length ≤ 2621446 ∧ 6 ≤ (buildB bits ks).length := by
  have h1 : unionE (buildB bits ks) (buildB bits ks) = 0 := by rw [unions_E h h, if_pos rfl]
  refine ⟨h1, ?_, ?_, ?_⟩
  · unfold ures; rw [if_pos h1, unions_self]
  · rw [buildB_length]; have := buildM_le h; omega
  · rw [buildB_length]; omega

set_option maxRecDepth 100000 in
set_option maxHeartbeats 1000000 in
theorem own_no (bits : Int) (ks : List (List UInt8)) (A : Option Addr) (n c : Nat) (w : World) (hn : n ≤ 9223372036854775807) (hr : RBs w w.heap.size A n ks) (h0 : buildE bits ks ≠ 0) :
    Calls Try.prog 5 #[.int .i64 bits, .slice A n c] w fun e w' => e = .returned (.bool true) ∧ Below w.heap.size w w' := by
  have HR : Hid (∀ w', Below w.heap.size w w' → RBs w' w'.heap.size A n ks) := Lib.hid fun w' h => hr.later h
  obtain ⟨E, hE⟩ : ∃ E, E = buildE bits ks := ⟨_, rfl⟩
  rw [← hE] at h0
  have XE := Lib.hid hE
  have d1 : ((E : Int) != 0) = true := by rw [bne_iff_ne]; omega
  have d2 : ((E : Int) == (E : Int)) = true := by simp
  have tok1 : True := trivial
  clear hr hE h0
  go_enter Try.func5, Try.ntmps5
  go_wp2_with (first
    | (go_at_call 14; refine (num_any _ _).mono ?_; rintro e wn ⟨rfl, rfl⟩)
    | (go_at_call 12; refine (started_any _).mono ?_; rintro e w0 ⟨rfl, hb0⟩; have HB0 := Lib.hid hb0; clear hb0)
    | (go_at_call 13; have _t := tok1; go_must (refine (build_any bits ks A n c _ hn (HR.out _ HB0.out)).mono ?_); rintro e w3 hp; have hp := build_post hp; rw [← XE.out] at hp; obtain ⟨A3, c3, rfl, _, _, hb3⟩ := hp.at_ rfl rfl; have HB3 := Lib.hid (HB0.out.trans (hb3.mono HB0.out.size)); clear tok1 hp hb3)
    | (go_at_call 13; go_must (refine (build_any bits ks A n c _ hn (HR.out _ HB3.out)).mono ?_); rintro e w4 hp; have hp := build_post hp; rw [← XE.out] at hp; obtain ⟨A4, c4, rfl, _, _, hb4⟩ := hp.at_ rfl rfl; have HB4 := Lib.hid (HB3.out.trans (hb4.mono HB3.out.size)); clear hp hb4))
  go_ret
  exact ⟨rfl, HB4.out⟩

/-- The four slices in their list, and the copy. -/
def five (A3 A4 A6 A7 A5 : Option Addr) (c3 c4 c6 c7 c5 : Nat) (F : List UInt8) : RowL := [(A3, c3, F), (A4, c4, F), (A6, c6, F), (A7, c7, F), (A5, c5, F)]
theorem five_pick {T : TypeId} {base : Nat} {w : World} {A3 A4 A6 A7 A5 : Option Addr} {c3 c4 c6 c7 c5 : Nat} {F : List UInt8} (h : RowsB T base w [(A3, c3, F), (A4, c4, F), (A5, c5, F), (A6, c6, F), (A7, c7, F)]) : RowsB T base w (five A3 A4 A6 A7 A5 c3 c4 c6 c7 c5 F) := by
  refine h.pick (fun i => if i = 2 then 3 else if i = 3 then 4 else if i = 4 then 2 else i) (fun i j hi hj hij => ?_) fun i s hs => ?_
  · simp only [five, List.length_cons, List.length_nil] at hi hj
    split <;> split <;> (try split) <;> (try split) <;> (try split) <;> (try split) <;> omega
  · have hi := (List.getElem?_eq_some_iff.1 hs).1
    simp only [five, List.length_cons, List.length_nil] at hi
    match i, hi with
    | 0, _ => exact hs
    | 1, _ => exact hs
    | 2, _ => exact hs
    | 3, _ => exact hs
    | 4, _ => exact hs

/-- The lengthened ones. -/
def moreK (mk : Nat → UInt8) (N q : Nat) : List (List UInt8) := (List.range q).map fun i => List.replicate N (mk i)
theorem moreK_succ (mk : Nat → UInt8) (N q : Nat) : moreK mk N (q + 1) = moreK mk N q ++ [List.replicate N (mk q)] := by simp [moreK, List.range_succ]
theorem moreK_at (mk : Nat → UInt8) (N : Nat) {q i : Nat} (h : i < q) : (moreK mk N q)[i]? = some (List.replicate N (mk i)) := by simp [moreK, List.getElem?_map, List.getElem?_range h]
theorem HRK_ge {T : TypeId} {base : Nat} {w : World} {rs : RowL} {i g c : Nat} {l : List UInt8} (h : RowsB T base w rs) (hr : rs[i]? = some (some ⟨g, 0, none⟩, c, l)) : base ≤ g := ((h.1 i _ hr).lt (a := ⟨g, 0, none⟩) rfl).1
theorem Chg.trans2 {w8 wr w3 : World} {g8 H3 : Nat} (h : Chg (fun b => b < g8) w8 wr) (k : Chg (fun b => b < g8 ∨ H3 ≤ b) wr w3) (hle : w8.heap.size ≤ H3) : Chg (fun b => b < g8) w8 w3 :=
  ⟨k.os.trans h.os, k.tape.trans h.tape, k.output.trans h.output, Nat.le_trans h.size k.size, fun b hb hn => (k.block b (Nat.lt_of_lt_of_le hb h.size) (fun e => by rcases e with e | e; exact hn e; omega)).trans (h.block b hb hn)⟩
theorem five_lt {T : TypeId} {base : Nat} {w : World} {rs : RowL} (h : RowsB T base w rs) : ∀ (i : Nat) r a, rs[i]? = some r → r.1 = some a → base ≤ a.block ∧ a.block < w.heap.size := fun i r a hr ha => (h.1 i r hr).lt ha
theorem five_ex (A3 A4 A6 A7 A5 : Option Addr) (c3 c4 c6 c7 c5 : Nat) (F : List UInt8) : ∀ k, k < 4 → ∃ a ca, (five A3 A4 A6 A7 A5 c3 c4 c6 c7 c5 F)[k]? = some (a, ca, F) := fun k hk => by
  match k, hk with
  | 0, _ => exact ⟨_, _, rfl⟩
  | 1, _ => exact ⟨_, _, rfl⟩
  | 2, _ => exact ⟨_, _, rfl⟩
  | 3, _ => exact ⟨_, _, rfl⟩
theorem five_out (w7 : World) (A3 A4 A6 A7 A5 : Option Addr) (c3 c4 c6 c7 c5 : Nat) (F : List UInt8) (LF : Nat) (t : TypeId) :
    Hid (∀ x, Chg (fun b => b < w7.heap.size) (w7.alloc (.cells #[.slice A3 LF c3, .slice A4 LF c4, .slice A6 LF c6, .slice A7 LF c7] t)) x → ∀ (k : Nat) (a : Option Addr) (ca : Nat), k < 4 → (five A3 A4 A6 A7 A5 c3 c4 c6 c7 c5 F)[k]? = some (a, ca, F) → x.cell? ⟨w7.heap.size, k, none⟩ = some (.slice a LF ca)) := Lib.hid fun x hx k a ca hk h => by
  have hc : ∀ v, (w7.alloc (.cells #[.slice A3 LF c3, .slice A4 LF c4, .slice A6 LF c6, .slice A7 LF c7] t)).cell? ⟨w7.heap.size, k, none⟩ = some v → x.cell? ⟨w7.heap.size, k, none⟩ = some v := fun v hv => hx.cell hv (by simp)
  match k, hk with
  | 0, _ => injection h with h; injection h with h1 h; injection h with h2 _; subst h1; subst h2; exact hc _ (by simp)
  | 1, _ => injection h with h; injection h with h1 h; injection h with h2 _; subst h1; subst h2; exact hc _ (by simp)
  | 2, _ => injection h with h; injection h with h1 h; injection h with h2 _; subst h1; subst h2; exact hc _ (by simp)
  | 3, _ => injection h with h; injection h with h1 h; injection h with h2 _; subst h1; subst h2; exact hc _ (by simp)

set_option maxRecDepth 100000 in
set_option maxHeartbeats 8000000 in
theorem own_ok (bits : Int) (ks : List (List UInt8)) (A : Option Addr) (n c : Nat) (w : World) (hn : n ≤ 9223372036854775807) (hr : RBs w w.heap.size A n ks) (h0 : buildE bits ks = 0) :
    Calls Try.prog 5 #[.int .i64 bits, .slice A n c] w fun e w' => e = .returned (.bool true) ∧ Below w.heap.size w w' := by
  have HR : Hid (∀ w', Below w.heap.size w w' → RBs w' w'.heap.size A n ks) := Lib.hid fun w' h => hr.later h
  obtain ⟨f1, f2, f3, f4⟩ := own_facts h0
  obtain ⟨F, hF⟩ : ∃ F, F = buildB bits ks := ⟨_, rfl⟩
  rw [← hF] at f1 f2 f3 f4
  obtain ⟨LF, hLF⟩ : ∃ L, L = F.length := ⟨_, rfl⟩
  rw [← hLF] at f3 f4
  have XF : Hid (bres bits ks = F) := Lib.hid (by unfold bres; rw [if_pos h0, hF])
  have XE : Hid (buildE bits ks = 0) := Lib.hid h0
  have XLF := Lib.hid hLF
  have XU : Hid (unionE F F = 0 ∧ ures F F = F) := Lib.hid ⟨f1, f2⟩
  have XS : Hid ((F == F) = true) := Lib.hid (by simp)
  have tok1 : True := trivial
  have tok2 : True := trivial
  have tok3 : True := trivial
  have R0 : Hid (∀ w', RowsB 5 w.heap.size w' []) := Lib.hid fun w' => RowsB.nil
  clear hr hF hLF h0 f1 f2
  go_enter Try.func5, Try.ntmps5
  go_upto_region 13 with (first
    | (go_at_call 14; refine (num_any _ _).mono ?_; rintro e wn ⟨rfl, rfl⟩)
    | (go_at_call 12; refine (started_any _).mono ?_; rintro e w0 ⟨rfl, hb0⟩; have HB0 := Lib.hid hb0; clear hb0)
    | (go_at_call 13; have _t := tok1; go_must (refine (build_any bits ks A n c _ hn (HR.out _ HB0.out)).mono ?_); rintro e w3 hp; have hp := build_post hp; rw [XE.out, XF.out] at hp; obtain ⟨A3, c3, rfl, _, hO3, hb3⟩ := hp.at_ XLF.out.symm rfl; have HB3 := Lib.hid (HB0.out.trans (hb3.mono HB0.out.size)); have R1 := Lib.hid ((R0.out w0).fresh hb3 hO3 HB0.out.size); clear tok1 hp hb3 hO3)
    | (go_at_call 13; have _t := tok2; go_must (refine (build_any bits ks A n c _ hn (HR.out _ HB3.out)).mono ?_); rintro e w4 hp; have hp := build_post hp; rw [XE.out, XF.out] at hp; obtain ⟨A4, c4, rfl, _, hO4, hb4⟩ := hp.at_ XLF.out.symm rfl; have HB4 := Lib.hid (HB3.out.trans (hb4.mono HB3.out.size)); have R2 := Lib.hid (R1.out.fresh hb4 hO4 HB3.out.size); clear tok2 hp hb4 hO4)
    | (at_builtin; go_must (refine wpList_append_reads _ rfl (.tmp 56) (.tmp 57) rfl Try.u8s' w4.heap.size (.slice none 0 0) 0 [] rfl (own_nil _ _ _ _) _ A3 LF c3 (u8s F) rfl (R2.out.sl_at (i := 0) rfl XLF.out.symm).rb (u8s_one _) (by unfold maxLen; omega) (by omega) (Nat.le_refl _) ?_); intro v5 w5 hown5 hg5 hat5; have hb5 := below_app (Below.refl w4.heap.size w4) (own_nil _ w4.heap.size 5 1) hg5 (Nat.le_refl _) (Nat.le_refl _); rw [List.nil_append] at hown5; obtain ⟨A5, c5, rfl, hO5⟩ := own_bytes hown5; have HB5 := Lib.hid (HB4.out.trans (hb5.mono HB4.out.size)); have R3 := Lib.hid (R2.out.fresh hb5 hO5 HB4.out.size); rw [← XLF.out]; clear hown5 hg5 hat5 hb5 hO5)
    | (go_at_call 18; have _t := tok3; go_must (refine (union_any F F A3 A4 LF c3 LF c4 _ (by omega) (R3.out.sl_at (i := 0) rfl XLF.out.symm).rb (by omega) (R3.out.sl_at (i := 1) rfl XLF.out.symm).rb).mono ?_); rintro e w6 hp; have hp := union_post hp; rw [XU.out.1, XU.out.2] at hp; obtain ⟨A6, c6, rfl, _, hO6, hb6⟩ := hp.at_ XLF.out.symm rfl; have HB6 := Lib.hid (HB5.out.trans (hb6.mono HB5.out.size)); have R4 := Lib.hid (R3.out.fresh hb6 hO6 HB5.out.size); clear tok3 hp hb6 hO6)
    | (go_at_call 18; go_must (refine (union_any F F A3 A3 LF c3 LF c3 _ (by omega) (R4.out.sl_at (i := 0) rfl XLF.out.symm).rb (by omega) (R4.out.sl_at (i := 0) rfl XLF.out.symm).rb).mono ?_); rintro e w7 hp; have hp := union_post hp; rw [XU.out.1, XU.out.2] at hp; obtain ⟨A7, c7, rfl, _, hO7, hb7⟩ := hp.at_ XLF.out.symm rfl; have HB7 := Lib.hid (HB6.out.trans (hb7.mono HB6.out.size)); have R5 := Lib.hid (five_pick (R4.out.fresh hb7 hO7 HB6.out.size)); clear hp hb7 hO7)
    | (go_at_call 15; go_must (refine (alike_any F F _ A5 LF _ LF c5 _ (by first | exact (R5.out.sl_at (i := 2) rfl XLF.out.symm).rb | exact (R5.out.sl_at (i := 3) rfl XLF.out.symm).rb) (R5.out.sl_at (i := 4) rfl XLF.out.symm).rb).mono ?_); rw [XS.out]; rintro e wn ⟨rfl, rfl⟩))
  have HB8 := Lib.hid (HB7.out.alloc HB7.out.size (.cells #[.slice A3 LF c3, .slice A4 LF c4, .slice A6 LF c6, .slice A7 LF c7] 24))
  have R8 := Lib.hid (R5.out.later ((Below.refl w7.heap.size w7).alloc (Nat.le_refl _) (.cells #[.slice A3 LF c3, .slice A4 LF c4, .slice A6 LF c6, .slice A7 LF c7] 24)))
  have HLT := Lib.hid (five_lt R5.out)
  have HOUT := five_out w7 A3 A4 A6 A7 A5 c3 c4 c6 c7 c5 F LF 24
  have HSZ : Hid (w7.heap.size < (w7.alloc (.cells #[.slice A3 LF c3, .slice A4 LF c4, .slice A6 LF c6, .slice A7 LF c7] 24)).heap.size) := Lib.hid (by simp)
  obtain ⟨ss, hss⟩ : ∃ ss, ss = five A3 A4 A6 A7 A5 c3 c4 c6 c7 c5 F := ⟨_, rfl⟩
  have XSS := Lib.hid hss
  have HEX : Hid (∀ k, k < 4 → ∃ a ca, ss[k]? = some (a, ca, F)) := Lib.hid (by rw [hss]; exact five_ex _ _ _ _ _ _ _ _ _ _ _)
  have H5 : Hid (ss[4]? = some (A5, c5, F)) := Lib.hid (by rw [hss]; rfl)
  rw [← hss] at R8 HLT HOUT
  obtain ⟨g8, hg8⟩ : ∃ g, g = w7.heap.size := ⟨_, rfl⟩
  rw [← hg8] at HLT HOUT HSZ ⊢
  generalize hw8 : w7.alloc _ = w8 at *
  clear hw8 hg8 hss R1 R2 R3 R4 R5 HB0 HB3 HB4 HB5 HB6 HB7
  go_wp2_with fail
  go_loopw [16] (fun i wr => ∃ k : Nat, k ≤ 4 ∧ i = .int .i64 k ∧ Hid (RowsB 5 w.heap.size wr (fillR mk11 ss k)) ∧ Hid (Chg (fun b => b < g8) w8 wr) ∧ Hid (Below w.heap.size w wr)) (fun i _ => 4 - (intOf i).toNat)
  case atStart => exact ⟨0, by omega, rfl, Lib.hid (by rw [fillR_zero]; exact R8.out), Lib.hid (Chg.refl _ _), HB8⟩
  case round =>
    obtain ⟨k, hk, rfl, HRW, HC, HB⟩ := hrel
    by_cases hlt : k < 4
    case neg =>
      have hd : decide ((k : Int) < 4) = false := decide_eq_false (by omega)
      have hk4 : k = 4 := by omega
      obtain ⟨rs, hrs⟩ : ∃ rs, rs = fillR mk11 ss k := ⟨_, rfl⟩
      rw [← hrs] at HRW
      have HEX4 : Hid (∀ k, k < 4 → ∀ a ca, ss[k]? = some (a, ca, F) → rs[k]? = some (a, ca, List.replicate LF (mk11 k))) := Lib.hid fun i hi a ca h => by
        rw [hrs, fillR_get, h, XLF.out, hk4]; simp [hi]
      have H54 : Hid (rs[4]? = some (A5, c5, F)) := Lib.hid (by rw [hrs, fillR_get, H5.out, hk4]; simp)
      have HL4 : Hid (∀ (i : Nat) r a, rs[i]? = some r → r.1 = some a → a.block < g8) := Lib.hid fun i r a hr ha => by
        rw [hrs, fillR_get] at hr
        cases h : ss[i]? with
        | none => rw [h] at hr; cases hr
        | some q =>
          rw [h] at hr; injection hr with hr
          have e : q.1 = some a := by
            rw [← ha, ← hr]; split <;> rfl
          exact (HLT.out i q a h e).2
      obtain ⟨wo, rfl⟩ : ∃ wo : World, wo = wr := ⟨_, rfl⟩
      obtain ⟨H3, hH3⟩ : ∃ H, H = wo.heap.size := ⟨_, rfl⟩
      have hg83 : g8 < H3 := by have := HC.out.size; have := HSZ.out; omega
      have HL3 : Hid (∀ (i : Nat) r a, rs[i]? = some r → r.1 = some a → a.block < H3) := Lib.hid fun i r a hr ha => by have := HL4.out i r a hr ha; omega
      have HSZ3 : Hid (w.heap.size ≤ H3) := Lib.hid (by have := HB.out.size; omega)
      have HSZ8 : Hid (w8.heap.size ≤ H3) := Lib.hid (by have := HC.out.size; omega)
      have HH3 := Lib.hid hH3
      have hH3' : H3 ≤ wo.heap.size := by omega
      clear hrs hH3 hk4 hk hlt
      go_wp2_with fail
      go_loopw [18, 19] (fun v i wr => ∃ (q : Nat) (vs : List Value), q ≤ 4 ∧ i = .int .i64 q ∧ wr.ownsRow H3 24 1 v q vs ∧ Hid (RowsB 5 w.heap.size wr rs) ∧ Hid (FamS wr v.ownBlock vs (moreK mk11 (2 * LF + 70) q)) ∧ Hid (Aps rs q vs) ∧ Hid (Chg (fun b => b < g8) w8 wr) ∧ Hid (Below w.heap.size w wr) ∧ Hid (H3 ≤ wr.heap.size)) (fun _ i _ => 4 - (intOf i).toNat)
      case atStart => exact ⟨0, [], by omega, rfl, own_nil _ _ _ _, HRW, Lib.hid FamS.nil, Lib.hid (Aps.nil _), HC, HB, Lib.hid hH3'⟩
      case round =>
        clear HRW HC HB hH3' HH3
        obtain ⟨q, vs, hq, rfl, hown, HRW, HF, HA, HC, HB, HH⟩ := hrel
        by_cases hlt : q < 4
        case neg =>
          have hd : decide ((q : Int) < 4) = false := decide_eq_false (by omega)
          have hq4 : 4 ≤ q := by omega
          obtain ⟨Am, cm, hv, _, _, _, hrm⟩ := own_slice hown
          subst hv
          have HRM := Lib.hid hrm
          obtain ⟨bm, om, rfl, _, hcm⟩ := hrm.2 (by omega)
          have HCM := Lib.hid hcm
          clear hown hrm hcm
          go_wp2_with fail
          go_loop [20] (fun i => ∃ k : Nat, k ≤ 4 ∧ i = .int .i64 k) (fun i => 4 - (intOf i).toNat)
          case atStart => exact ⟨0, by omega, rfl⟩
          case round =>
            obtain ⟨k, hk, rfl⟩ := hrel
            by_cases hlt : k < 4
            case neg =>
              have hd : decide ((k : Int) < 4) = false := decide_eq_false (by omega)
              go_wp2_with (first
                | (go_at_call 14; refine (num_any _ _).mono ?_; rintro e wn ⟨rfl, rfl⟩)
                | (go_at_call 13; go_must (refine (build_any bits ks A n c _ hn (HR.out _ HB.out)).mono ?_); rintro e w9 hp; have hp := build_post hp; rw [XE.out, XF.out] at hp; obtain ⟨A9, c9, rfl, hS9, _, hb9⟩ := hp.at_ XLF.out.symm rfl; have HS9 := Lib.hid hS9; have HB9 := Lib.hid hb9; have HBB := Lib.hid (HB.out.trans (hb9.mono HB.out.size)); clear hp hS9 hb9)
                | (go_at_call 15; go_must (refine (alike_any F F A9 A5 LF c9 LF c5 _ HS9.out.rb ((HRW.out.sl_at H54.out XLF.out.symm).later HB9.out).rb).mono ?_); rw [XS.out]; rintro e wn ⟨rfl, rfl⟩)
                | (go_at_call 12; go_must (refine (started_any _).mono ?_); rintro e w10 ⟨rfl, hb10⟩; have HB10 := Lib.hid (HBB.out.trans (hb10.mono HBB.out.size)); clear hb10))
              go_ret
              exact ⟨rfl, HB10.out⟩
            have hd : decide ((k : Int) < 4) = true := decide_eq_true (by omega)
            obtain ⟨a, ca, hsk⟩ := HEX.out k hlt
            have hrk := HEX4.out k hlt _ _ hsk
            have hcell := HOUT.out wr HC.out k _ _ hlt hsk
            obtain ⟨a', c', hvk, hsl⟩ := HF.out.at_ (moreK_at mk11 (2 * LF + 70) (show k < q by omega))
            rw [List.length_replicate] at hvk hsl
            have hcm := HCM.out k _ hvk
            have HRK := Lib.hid hrk
            have HSL := Lib.hid hsl
            have HMN := Lib.hid (mk11_nat k (by omega))
            clear hsk hrk hvk hsl
            go_wp2_with fail
            go_loop [21] (fun i => ∃ j : Nat, j ≤ 2 * LF + 70 ∧ i = .int .i64 j) (fun i => 2 * LF + 70 - (intOf i).toNat)
            case atStart => exact ⟨0, by omega, rfl⟩
            case round =>
              obtain ⟨j, hj, rfl⟩ := hrel
              by_cases hjl : j < 2 * LF + 70
              case neg =>
                have hd2 : decide ((j : Int) < 2 * (LF : Int) + 70) = false := decide_eq_false (by omega)
                go_wp2_with fail
                go_round
                case rel => exact ⟨k + 1, by omega, by go_num⟩
                case measure => simp [intOf]; omega
              have hd2 : decide ((j : Int) < 2 * (LF : Int) + 70) = true := decide_eq_true (by omega)
              obtain ⟨b, o, x, e', _, hx, hcx⟩ := HSL.out.rb.at_ hjl
              subst e'
              rw [rep_at _ _ hjl] at hx
              injection hx with hx
              subst hx
              rw [HMN.out] at hcx
              by_cases hjL : j < LF
              · have hd3 : decide ((j : Int) < (LF : Int)) = true := decide_eq_true (by omega)
                obtain ⟨gk, rfl, _, _⟩ := HRW.out.form HRK.out (by rw [List.length_replicate]; omega)
                have hck := (HRW.out.cell HRK.out (rep_at LF (mk11 k) hjL)).1
                rw [HMN.out] at hck
                go_wp2_with fail
                go_round
                case rel => exact ⟨j + 1, by omega, by go_num⟩
                case measure => simp [intOf]; omega
              · have hd3 : decide ((j : Int) < (LF : Int)) = false := decide_eq_false (by omega)
                go_wp2_with fail
                go_round
                case rel => exact ⟨j + 1, by omega, by go_num⟩
                case measure => simp [intOf]; omega
        have hd : decide ((q : Int) < 4) = true := decide_eq_true (by omega)
        obtain ⟨a, ca, hsk⟩ := HEX.out q hlt
        have hrk := HEX4.out q hlt _ _ hsk
        obtain ⟨gk, rfl, hgk1, hgk2⟩ := HRW.out.form hrk (by rw [List.length_replicate]; omega)
        have hcell := HOUT.out wr HC.out q _ _ hlt hsk
        have HOK := Lib.hid (HRW.out.1 q _ hrk)
        have HRK := Lib.hid hrk
        have HMN := Lib.hid (mk11_nat q (by omega))
        have HGK := Lib.hid (HL4.out q _ _ hrk rfl)
        obtain ⟨v, hv⟩ : ∃ v, v = u18 := ⟨_, rfl⟩
        rw [← hv] at hown HF ⊢
        have HO := Lib.hid hown
        have HLEN : Hid ((List.replicate LF (mk11 q) ++ List.replicate (LF + 70) (mk11 q)).length = 2 * LF + 70) := Lib.hid (by simp; omega)
        have HBS : Hid (w.heap.size ≤ wr.heap.size) := Lib.hid HB.out.size
        have HHG : Hid (gk < H3) := Lib.hid (Nat.lt_trans (show gk < g8 from HGK.out) hg83)
        clear hv hown hsk hrk hgk1 hgk2
        go_wp2_with (first
          | (go_at_call 19; go_must (refine (grown_of w.heap.size (List.replicate LF (mk11 q)) (some ⟨gk, 0, none⟩) LF ca (mk11 q) _ HMN.out.symm _ HOK.out (List.length_replicate ..) (by omega) HBS.out).mono ?_); rintro e w2 ⟨A', c', rfl, hs2, ho2, hg2, hblk⟩; have HS2 := Lib.hid hs2; have HO2 := Lib.hid ho2; have HG2 := Lib.hid (show wr.grownBy w2 (some gk) from hg2); have HBK := Lib.hid (show ∀ a, A' = some a → some gk = some a.block ∨ wr.heap.size ≤ a.block from hblk); clear hs2 ho2 hg2 hblk)
          | (at_builtin; go_must (refine wpList_append_reads _ rfl (.tmp 122) (.tmp 131) rfl Try.keyss H3 v q vs rfl ((more_own HO.out HG2.out HHG.out).alloc _) (w2.heap.size + 1) (some ⟨w2.heap.size, 0, none⟩) 1 1 [.slice A' (2 * LF + 70) c'] rfl (lit_one8 _ _ _ _ rfl) (by simp [Value.oneCell']) (by unfold maxLen; omega) (by omega) (by have := HH.out; have := HG2.out.size; simp; omega) ?_); intro v3 w3 hown3 hg3 hat3; have HST := Lib.hid (more_step HLEN.out HRW.out HRK.out HF.out HA.out HO.out HL3.out HH.out HG2.out HO2.out HS2.out HBK.out hg3 hat3); have HO3 := Lib.hid hown3; clear hown3 hg3 hat3))
        have hO3 := HO3.out
        have HC3 := Lib.hid (HST.out.2.2.2 (fun b => b < g8 ∨ H3 ≤ b) (.inl HGK.out) fun b h => .inr h)
        have HB3 := Lib.hid (HB.out.trans ((HST.out.2.2.2 (fun b => w.heap.size ≤ b) (HRK_ge HRW.out HRK.out) fun b h => by have := HB.out.size; have := HSZ3.out; omega).below HBS.out fun b _ h => h))
        clear HO3
        go_roundw
        case rel => exact ⟨q + 1, vs ++ [.slice A' (2 * LF + 70) c'], by omega, by go_num, hO3, Lib.hid HST.out.1, Lib.hid (by rw [moreK_succ]; rw [show List.replicate (2 * LF + 70) (mk11 q) = List.replicate LF (mk11 q) ++ List.replicate (LF + 70) (mk11 q) from by rw [List.replicate_append_replicate]; congr 1; omega]; exact HST.out.2.1), Lib.hid HST.out.2.2.1, Lib.hid (HC.out.trans2 HC3.out HSZ8.out), HB3, Lib.hid (Nat.le_trans HH.out HC3.out.size)⟩
        case measure => simp [intOf]; omega
    have hd : decide ((k : Int) < 4) = true := decide_eq_true (by omega)
    obtain ⟨a, ca, hsk⟩ := HEX.out k hlt
    obtain ⟨gk, rfl, hgk1, hgk2⟩ := R8.out.form hsk (by rw [← XLF.out]; omega)
    have hgk3 := (HLT.out k _ _ hsk rfl).2
    have hmv := mk11_v k (by omega)
    have HMV := Lib.hid hmv
    have HSK := Lib.hid hsk
    have HG1 := Lib.hid hgk1
    have HG3 := Lib.hid hgk3
    have hcell := HOUT.out wr HC.out k _ _ hlt hsk
    clear hsk hmv hgk1 hgk2 hgk3
    go_wp2_with fail
    go_loopw [17] (fun q wr => ∃ j : Nat, j ≤ LF ∧ q = .int .i64 j ∧ Hid (RowsB 5 w.heap.size wr ((fillR mk11 ss k).set k (some ⟨gk, 0, none⟩, ca, fillTo F (mk11 k) j))) ∧ Hid (Chg (fun b => b < g8) w8 wr) ∧ Hid (Below w.heap.size w wr)) (fun q _ => LF - (intOf q).toNat)
    case atStart => exact ⟨0, by omega, rfl, Lib.hid (by rw [fillR_start HSK.out]; exact HRW.out), HC, HB⟩
    case round =>
      obtain ⟨j, hj, rfl, HRJ, HCJ, HBJ⟩ := hrel
      have hcell2 := HOUT.out wr HCJ.out k _ _ hlt HSK.out
      clear hcell
      by_cases hjl : j < LF
      case neg =>
        obtain rfl : j = LF := by omega
        have HDONE : Hid (RowsB 5 w.heap.size wr (fillR mk11 ss (k + 1))) := Lib.hid (by
          have h := HRJ.out
          rw [XLF.out, fillR_done HSK.out] at h
          exact h)
        have hd2 : decide ((j : Int) < (j : Int)) = false := decide_eq_false (by omega)
        go_wp2_with fail
        go_roundw
        case rel => exact ⟨k + 1, by omega, by go_num, HDONE, HCJ, HBJ⟩
        case measure => simp [intOf]; omega
      have hjF : j < F.length := by rw [← XLF.out]; exact hjl
      obtain ⟨u, hu⟩ : ∃ u, (fillTo F (mk11 k) j)[j]? = some u := ⟨_, List.getElem?_eq_getElem (by rw [fillTo_len _ (by omega)]; exact hjF)⟩
      obtain ⟨hcu, hfu⟩ := HRJ.out.cell (i := k) (g := gk) (c := ca) (by rw [List.getElem?_set, if_pos rfl, if_pos (by rw [fillR_len]; exact (List.getElem?_eq_some_iff.1 HSK.out).1)]) hu
      have hst := HRJ.out.fill HSK.out hjF
      rw [HMV.out] at hst
      have HST := Lib.hid hst
      clear hst hu hjF
      go_wp2_with fail
      go_roundw
      case rel => exact ⟨j + 1, by omega, by go_num, Lib.hid HST.out.1, Lib.hid (HCJ.out.trans (HST.out.2.mono fun b _ e => by rw [e]; exact HG3.out)), Lib.hid (HBJ.out.setCell (p := ⟨gk, j, none⟩) HG1.out _)⟩
      case measure => simp [intOf]; omega

theorem own_any (bits : Int) (ks : List (List UInt8)) (A : Option Addr) (n c : Nat) (w : World) (hn : n ≤ 9223372036854775807) (hr : RBs w w.heap.size A n ks) :
    Calls Try.prog 5 #[.int .i64 bits, .slice A n c] w fun e w' => e = .returned (.bool true) ∧ Below w.heap.size w w' := by
  by_cases h : buildE bits ks = 0
  · exact own_ok bits ks A n c w hn hr h
  · exact own_no bits ks A n c w hn hr h

end Go.Proofs.Ythjjihipodhkiaa
