/-
  Laid together by merge.py: BlockR1, CellR3, CellR4, Kit40, Kit41, Kit42, BlockQ1, BlockD1.
-/
import Derived.Test.YtmigjipfomfacaaGreatDoorBr4
import Derived.Test.YtmigjipfomfacaaGreatDoorBr3
import Derived.Test.YtmigjipfomfacaaGreatDoorBr2
import Derived.Test.YtmigjipfomfacaaGreatDoorBr1
import Derived.RangeFuncNested
import Derived.RangeFuncBound
import Derived.RangeFuncCalls
import Derived.RangeFuncLeaves
import Derived.OwnWalkIn
import Derived.TacticsInMore
import Derived.LoopIn
import Derived.Shelf.Abstract
import Derived.Deep.DeepCutAuto
namespace Go.Proofs.YtmigjipfomfacaaGreatDoor
open Go.RowKit
structure BkR (x : World) (R g : Nat) (L : List Ent) : Prop where
  lt : g < x.heap.size
  c0 : x.cell? ⟨g, 0, none⟩ = some (.int .i64 (R : Int))
  c1 : ∃ A c, x.cell? ⟨g, 1, none⟩ = some (.slice A L.length c) ∧ Ens x A L.length L
  c2 : ∃ A c, x.cell? ⟨g, 2, none⟩ = some (.slice A L.length c) ∧ RBs x x.heap.size A L.length (L.map keyE)
theorem BkR.later {x y : World} {R g : Nat} {L : List Ent} (h : BkR x R g L) (hb : Below x.heap.size x y) : BkR y R g L := by
  obtain ⟨h0, h1, ⟨A, c, h2, h3⟩, ⟨B, d, h4, h5⟩⟩ := h
  exact ⟨Nat.lt_of_lt_of_le h0 hb.size, (hb.cell (p := ⟨g, 0, none⟩) h0).trans h1, ⟨A, c, (hb.cell (p := ⟨g, 1, none⟩) h0).trans h2, h3.later hb⟩, ⟨B, d, (hb.cell (p := ⟨g, 2, none⟩) h0).trans h4, h5.later hb⟩⟩
theorem Bk5.reads {w x : World} {R g : Nat} {L : List Ent} {os rest : List Ob} (hb : Bk5 R L g os) (h : OW w (os ++ rest) x) : BkR x R g L := by
  obtain ⟨lv, kv, zs, rfl, rfl, hz⟩ := hb
  obtain ⟨A, c, rfl, he⟩ := blk_ens h
  obtain ⟨B, d, rfl, _⟩ := own_slice (h.row (i := 2) rfl)
  have hl : (entsZ zs).length = zs.length := by unfold entsZ; rw [List.length_map]
  refine ⟨(h.box (i := 0) rfl).2.1, h.cell (i := 0) (j := 0) rfl rfl, ⟨A, c, by rw [hl]; exact h.cell (i := 0) (j := 1) rfl rfl, by rw [hl]; exact he⟩, ⟨B, d, by rw [hl]; exact h.cell (i := 0) (j := 2) rfl rfl, ?_⟩⟩
  rw [hl]
  refine ⟨zs.map (valR ·.2), Reads.own (h.row (i := 2) rfl), by unfold entsZ; simp, fun i k hk => ?_⟩
  unfold entsZ at hk
  rw [List.map_map, List.getElem?_map] at hk
  obtain ⟨z, hzi, hke⟩ := Option.map_eq_some_iff.1 hk
  have hm := List.mem_of_getElem? hzi
  have hkk : z.2.2.2 = k := by rw [(hz z hm).1]; exact hke
  have hsl := h.slm (T := 5) (A := z.2.1) (c := z.2.2.1) (l := z.2.2.2) (List.mem_append_left _ (rowZ_mem hm (by simp [rowsZ]))) rfl
  rw [hkk] at hsl
  exact ⟨z.2.1, z.2.2.1, by rw [List.getElem?_map, hzi]; simp only [Option.map_some, valR]; rw [hkk], hsl.cap, hsl.lim, hsl.nil, hsl.rb⟩
theorem sclip_any (A : Option Addr) (n c : Nat) (w : World) (hc : n ≤ c) (_hl : c ≤ 9223372036854775807) : Calls Tryz.prog 66 #[.slice A n c] w fun e w' => e = .returned (.slice A n n) ∧ w = w' := by
  have i1 : (0 : Int) ≤ (n : Int) := by omega
  have i2 : (n : Int) ≤ (c : Int) := by omega
  go_enter Tryz.func66, Tryz.ntmps66
  go_wp2_with fail
  go_ret
  exact ⟨rfl, rfl⟩
def OwnP (mk : Value → Value) (e : Ent) (w : World) (r : Ending) (x : World) : Prop :=
  ∃ A B D, r = .returned (mk (entV A e.row.length e.row.length B e.qual.length e.qual.length D e.val.length e.val.length e)) ∧ CAt A e.row ∧ CAt B e.qual ∧ CAt D e.val ∧ OW w [clipO A e.row, clipO B e.qual, clipO D e.val] x
theorem OwnP.en {e : Ent} {w x : World} {A B D : Option Addr} (ha : CAt A e.row) (hb : CAt B e.qual) (hd : CAt D e.val) (hn : e.row.length ≤ 9223372036854775807 ∧ e.qual.length ≤ 9223372036854775807 ∧ e.val.length ≤ 9223372036854775807) (h : OW w [clipO A e.row, clipO B e.qual, clipO D e.val] x) : En x A e.row.length e.row.length B e.qual.length e.qual.length D e.val.length e.val.length e :=
  ⟨h.clipSl ha (i := 0) rfl rfl hn.1, h.clipSl hb (i := 1) rfl rfl hn.2.1, h.clipSl hd (i := 2) rfl rfl hn.2.2⟩
theorem ptr3 (g : Nat) : ∀ k : Nat, k < 3 → ∀ w, (Instr.index 111 (.agg #[.pointer (some ⟨g, 0, none⟩), .pointer (some ⟨g, 2, none⟩), .pointer (some ⟨g, 6, none⟩)]) (.int .i64 (k : Int))).run Tryz.prog w = .ok (.pointer (some ⟨g, [0, 2, 6].getD k 0, none⟩)) w := fun k hk w => by
  match k, hk with
  | 0, _ => exact run_index_arr w _ 110 3 _ 0 _ (by kernel_rfl) (by kernel_rfl) (by kernel_rfl) (by decide) rfl
  | 1, _ => exact run_index_arr w _ 110 3 _ 1 _ (by kernel_rfl) (by kernel_rfl) (by kernel_rfl) (by decide) rfl
  | 2, _ => exact run_index_arr w _ 110 3 _ 2 _ (by kernel_rfl) (by kernel_rfl) (by kernel_rfl) (by decide) rfl
set_option maxRecDepth 100000 in
set_option maxHeartbeats 4000000 in
theorem own_any (e : Ent) (A : Option Addr) (n c : Nat) (B : Option Addr) (m d : Nat) (D : Option Addr) (v q : Nat) (w : World) (h : En w A n c B m d D v q e) (hn : n ≤ 140737488355000 ∧ m ≤ 140737488355000 ∧ v ≤ 140737488355000) :
    Calls Tryz.prog 42 #[entV A n c B m d D v q e] w (OwnP (fun v => v) e w) := by
  obtain ⟨hn1, hn2, hn3⟩ := hn
  have HE : Hid (∀ z, Below w.heap.size w z → En z A n c B m d D v q e) := Lib.hid fun z hz => h.later hz
  have HLR := Lib.hid h.row.rb.len
  have HLQ := Lib.hid h.qual.rb.len
  have HLV := Lib.hid h.val.rb.len
  clear h
  have HX := Lib.hid (OW.nil w)
  go_enter Tryz.func42, Tryz.ntmps42
  go_wp2_with (first
    | (refine wl_box rfl (.tmp 0) rfl [.slice A n c, .int .i64 e.fam, .slice B m d, .int .i64 e.ts, .int .i64 e.seq, .int .i64 e.kind, .slice D v q] rfl HX.out ?_; intro gb x1 hz _; replace HX := Lib.hid hz; clear hz)
    | (refine wl_alloc rfl rfl [.slice none 0 0, .int .i64 0, .slice none 0 0, .int .i64 0, .int .i64 0, .int .i64 0, .slice none 0 0] (.inl (by kernel_rfl)) HX.out ?_; intro gr x2 hz _; have HX0 := Lib.hid hz; clear hz HX))
  go_loopw [9] (fun i wr => ∃ k : Nat, k ≤ 3 ∧ i = .int .i64 k ∧ Hid (
    (k = 0 → OW w [boxO gb [.slice A n c, .int .i64 e.fam, .slice B m d, .int .i64 e.ts, .int .i64 e.seq, .int .i64 e.kind, .slice D v q], boxO gr [.slice none 0 0, .int .i64 0, .slice none 0 0, .int .i64 0, .int .i64 0, .int .i64 0, .slice none 0 0]] wr) ∧
    (k = 1 → ∃ A1, CAt A1 e.row ∧ OW w [boxO gb [.slice A1 n n, .int .i64 e.fam, .slice B m d, .int .i64 e.ts, .int .i64 e.seq, .int .i64 e.kind, .slice D v q], boxO gr [.slice none 0 0, .int .i64 0, .slice none 0 0, .int .i64 0, .int .i64 0, .int .i64 0, .slice none 0 0], clipO A1 e.row] wr) ∧
    (k = 2 → ∃ A1 B1, CAt A1 e.row ∧ CAt B1 e.qual ∧ OW w [boxO gb [.slice A1 n n, .int .i64 e.fam, .slice B1 m m, .int .i64 e.ts, .int .i64 e.seq, .int .i64 e.kind, .slice D v q], boxO gr [.slice none 0 0, .int .i64 0, .slice none 0 0, .int .i64 0, .int .i64 0, .int .i64 0, .slice none 0 0], clipO A1 e.row, clipO B1 e.qual] wr) ∧
    (k = 3 → ∃ A1 B1 D1, CAt A1 e.row ∧ CAt B1 e.qual ∧ CAt D1 e.val ∧ OW w [boxO gb [.slice A1 n n, .int .i64 e.fam, .slice B1 m m, .int .i64 e.ts, .int .i64 e.seq, .int .i64 e.kind, .slice D1 v v], boxO gr [.slice none 0 0, .int .i64 0, .slice none 0 0, .int .i64 0, .int .i64 0, .int .i64 0, .slice none 0 0], clipO A1 e.row, clipO B1 e.qual, clipO D1 e.val] wr))) (fun i _ => 3 - (intOf i).toNat)
  case atStart => exact ⟨0, by omega, rfl, Lib.hid ⟨fun _ => HX0.out, fun h => by omega, fun h => by omega, fun h => by omega⟩⟩
  case round =>
    clear HX0
    obtain ⟨k, hk, hi, HS⟩ := hrel
    have hk' : k = 0 ∨ k = 1 ∨ k = 2 ∨ k = 3 := by omega
    clear hk
    rcases hk' with rfl | rfl | rfl | rfl
    case inl =>
      replace hi : _ = Value.int .i64 0 := hi
      subst hi
      have hx := HS.out.1 rfl
      have HX := Lib.hid hx
      clear HS hx 
      have ix : ∀ w, (Instr.index 111 (.agg #[.pointer (some ⟨gb, 0, none⟩), .pointer (some ⟨gb, 2, none⟩), .pointer (some ⟨gb, 6, none⟩)]) (.int .i64 0)).run Tryz.prog w = .ok (.pointer (some ⟨gb, 0, none⟩)) w := fun w => ptr3 gb 0 (by decide) w
      have HN := Lib.hid (HX.out.nilB 5)
      go_wp2_with (first
        | (refine wpList_load_cell rfl 22 (.tmp 14) rfl rfl (HX.out.cell (i := 0) (j := 0) rfl rfl) (fun w => Tryz.isAgg22 w) ?_)
        | (at_builtin; go_must (refine wl_appB rfl (.const (.slice none 0 0)) (.tmp 15) rfl Tryz.u8s' HN.out 2 (n := 0) rfl rfl rfl _ _ n _ e.row rfl (HE.out _ HX.out.up).row.rb (by omega) ?_); intro A1 c9 x5 hz; rw [Nat.zero_add]; have HY := Lib.hid hz; have HCN := Lib.hid (cat_of HY.out (i := 2) rfl); have HY2 := Lib.hid (HY.out.clip (i := 2) rfl); have hcp := (HY.out.sl (i := 2) rfl (show ([] ++ e.row).length = n from HLR.out)); have hc1 := hcp.cap; have hc2 := hcp.lim; clear hz hcp HX HN HY)
        | (go_at_call 66; go_must (refine (sclip_any _ _ _ _ hc1 hc2).mono ?_); rintro r x6 ⟨rfl, rfl⟩)
        | (refine wl_put1 rfl (.tmp 18) (.tmp 17) rfl HY2.out 0 rfl 0 rfl (by show 0 < 7; decide) (.slice A1 n n) rfl (by kernel_rfl) rfl ?_; intro x7 hz _; have HX9 : Hid (OW w [boxO gb [.slice A1 n n, .int .i64 e.fam, .slice B m d, .int .i64 e.ts, .int .i64 e.seq, .int .i64 e.kind, .slice D v q], boxO gr [.slice none 0 0, .int .i64 0, .slice none 0 0, .int .i64 0, .int .i64 0, .int .i64 0, .slice none 0 0], clipO A1 e.row] x7) := Lib.hid hz; clear hz HY2))
      go_roundw
      case rel => exact ⟨1, by omega, rfl, Lib.hid ⟨(fun h => absurd h (by decide)), (fun _ => ⟨A1, HCN.out, HX9.out⟩), (fun h => absurd h (by decide)), (fun h => absurd h (by decide))⟩⟩
      case measure => decide
    case inr.inl =>
      replace hi : _ = Value.int .i64 1 := hi
      subst hi
      obtain ⟨A1, h0, hx⟩ := HS.out.2.1 rfl
      have HX := Lib.hid hx
      have HC0 := Lib.hid h0
      clear HS hx h0
      have ix : ∀ w, (Instr.index 111 (.agg #[.pointer (some ⟨gb, 0, none⟩), .pointer (some ⟨gb, 2, none⟩), .pointer (some ⟨gb, 6, none⟩)]) (.int .i64 1)).run Tryz.prog w = .ok (.pointer (some ⟨gb, 2, none⟩)) w := fun w => ptr3 gb 1 (by decide) w
      have HN := Lib.hid (HX.out.nilB 5)
      go_wp2_with (first
        | (refine wpList_load_cell rfl 22 (.tmp 14) rfl rfl (HX.out.cell (i := 0) (j := 2) rfl rfl) (fun w => Tryz.isAgg22 w) ?_)
        | (at_builtin; go_must (refine wl_appB rfl (.const (.slice none 0 0)) (.tmp 15) rfl Tryz.u8s' HN.out 3 (n := 0) rfl rfl rfl _ _ m _ e.qual rfl (HE.out _ HX.out.up).qual.rb (by omega) ?_); intro B1 c9 x5 hz; rw [Nat.zero_add]; have HY := Lib.hid hz; have HCN := Lib.hid (cat_of HY.out (i := 3) rfl); have HY2 := Lib.hid (HY.out.clip (i := 3) rfl); have hcp := (HY.out.sl (i := 3) rfl (show ([] ++ e.qual).length = m from HLQ.out)); have hc1 := hcp.cap; have hc2 := hcp.lim; clear hz hcp HX HN HY)
        | (go_at_call 66; go_must (refine (sclip_any _ _ _ _ hc1 hc2).mono ?_); rintro r x6 ⟨rfl, rfl⟩)
        | (refine wl_put1 rfl (.tmp 18) (.tmp 17) rfl HY2.out 0 rfl 2 rfl (by show 2 < 7; decide) (.slice B1 m m) rfl (by kernel_rfl) rfl ?_; intro x7 hz _; have HX9 : Hid (OW w [boxO gb [.slice A1 n n, .int .i64 e.fam, .slice B1 m m, .int .i64 e.ts, .int .i64 e.seq, .int .i64 e.kind, .slice D v q], boxO gr [.slice none 0 0, .int .i64 0, .slice none 0 0, .int .i64 0, .int .i64 0, .int .i64 0, .slice none 0 0], clipO A1 e.row, clipO B1 e.qual] x7) := Lib.hid hz; clear hz HY2))
      go_roundw
      case rel => exact ⟨2, by omega, rfl, Lib.hid ⟨(fun h => absurd h (by decide)), (fun h => absurd h (by decide)), (fun _ => ⟨A1, B1, HC0.out, HCN.out, HX9.out⟩), (fun h => absurd h (by decide))⟩⟩
      case measure => decide
    case inr.inr.inl =>
      replace hi : _ = Value.int .i64 2 := hi
      subst hi
      obtain ⟨A1, B1, h0, h1, hx⟩ := HS.out.2.2.1 rfl
      have HX := Lib.hid hx
      have HC0 := Lib.hid h0
      have HC1 := Lib.hid h1
      clear HS hx h0 h1
      have ix : ∀ w, (Instr.index 111 (.agg #[.pointer (some ⟨gb, 0, none⟩), .pointer (some ⟨gb, 2, none⟩), .pointer (some ⟨gb, 6, none⟩)]) (.int .i64 2)).run Tryz.prog w = .ok (.pointer (some ⟨gb, 6, none⟩)) w := fun w => ptr3 gb 2 (by decide) w
      have HN := Lib.hid (HX.out.nilB 5)
      go_wp2_with (first
        | (refine wpList_load_cell rfl 22 (.tmp 14) rfl rfl (HX.out.cell (i := 0) (j := 6) rfl rfl) (fun w => Tryz.isAgg22 w) ?_)
        | (at_builtin; go_must (refine wl_appB rfl (.const (.slice none 0 0)) (.tmp 15) rfl Tryz.u8s' HN.out 4 (n := 0) rfl rfl rfl _ _ v _ e.val rfl (HE.out _ HX.out.up).val.rb (by omega) ?_); intro D1 c9 x5 hz; rw [Nat.zero_add]; have HY := Lib.hid hz; have HCN := Lib.hid (cat_of HY.out (i := 4) rfl); have HY2 := Lib.hid (HY.out.clip (i := 4) rfl); have hcp := (HY.out.sl (i := 4) rfl (show ([] ++ e.val).length = v from HLV.out)); have hc1 := hcp.cap; have hc2 := hcp.lim; clear hz hcp HX HN HY)
        | (go_at_call 66; go_must (refine (sclip_any _ _ _ _ hc1 hc2).mono ?_); rintro r x6 ⟨rfl, rfl⟩)
        | (refine wl_put1 rfl (.tmp 18) (.tmp 17) rfl HY2.out 0 rfl 6 rfl (by show 6 < 7; decide) (.slice D1 v v) rfl (by kernel_rfl) rfl ?_; intro x7 hz _; have HX9 : Hid (OW w [boxO gb [.slice A1 n n, .int .i64 e.fam, .slice B1 m m, .int .i64 e.ts, .int .i64 e.seq, .int .i64 e.kind, .slice D1 v v], boxO gr [.slice none 0 0, .int .i64 0, .slice none 0 0, .int .i64 0, .int .i64 0, .int .i64 0, .slice none 0 0], clipO A1 e.row, clipO B1 e.qual, clipO D1 e.val] x7) := Lib.hid hz; clear hz HY2))
      go_roundw
      case rel => exact ⟨3, by omega, rfl, Lib.hid ⟨(fun h => absurd h (by decide)), (fun h => absurd h (by decide)), (fun h => absurd h (by decide)), (fun _ => ⟨A1, B1, D1, HC0.out, HC1.out, HCN.out, HX9.out⟩)⟩⟩
      case measure => decide
    case inr.inr.inr =>
      replace hi : _ = Value.int .i64 3 := hi
      subst hi
      obtain ⟨A1, B1, D1, h1, h2, h3, h4⟩ := HS.out.2.2.2 rfl
      have HC := Lib.hid (And.intro h1 (And.intro h2 h3))
      have HX := Lib.hid h4
      clear HS h1 h2 h3 h4
      go_wp2_with (first
        | (refine wpList_load_row7 rfl 46 (.tmp 1) rfl rfl (HX.out.range (i := 0) rfl) ent_row5 ?_)
        | (refine wl_put rfl (.tmp 2) (.tmp 20) rfl HX.out 1 rfl rfl [.slice A1 n n, .int .i64 e.fam, .slice B1 m m, .int .i64 e.ts, .int .i64 e.seq, .int .i64 e.kind, .slice D1 v v] rfl rfl (by kernel_rfl) (by simp [Value.oneCell']) ?_; intro x9 hz _; have HY := Lib.hid hz; clear hz))
      refine bodyPost_ret (results_rowL rfl _ _ gr [.slice A1 n n, .int .i64 e.fam, .slice B1 m m, .int .i64 e.ts, .int .i64 e.seq, .int .i64 e.kind, .slice D1 v v] rfl (HY.out.range (i := 1) rfl) (by kernel_rfl) (by kernel_rfl)) rfl ?_
      refine ⟨A1, B1, D1, by rw [HLR.out, HLQ.out, HLV.out], HC.out.1, HC.out.2.1, HC.out.2.2, HY.out.sub ((List.Sublist.refl _).cons _ |>.cons _)⟩
set_option maxRecDepth 100000 in
theorem len_any {x : World} {R g : Nat} {L : List Ent} (h : BkR x R g L) : Calls Tryz.prog 13 #[.pointer (some ⟨g, 0, none⟩)] x fun e x' => e = .returned (.int .i64 (L.length : Nat)) ∧ Below x.heap.size x x' := by
  obtain ⟨A, c, h1, _⟩ := h.c1
  obtain ⟨n, hn⟩ : ∃ z, z = L.length := ⟨_, rfl⟩
  rw [← hn] at h1 ⊢
  clear h hn
  go_enter Tryz.func13, Tryz.ntmps13
  go_wp2_with (refine wpList_load_cell rfl 30 (.tmp 5) rfl rfl h1 (fun w => Tryz.isAgg30 w) ?_)
  go_ret
  exact ⟨rfl, Below.refl _ _⟩
def AtP (L : List Ent) (i : Int) (x : World) (r : Ending) (z : World) : Prop :=
  (∃ (k : Nat) (e : Ent), i = (k : Int) ∧ L[k]? = some e ∧ OwnP (fun v => .tuple #[v, .int .i64 0]) e x r z) ∨
  ((i < 0 ∨ (L.length : Int) ≤ i) ∧ r = .returned (.tuple #[entV none 0 0 none 0 0 none 0 0 noEnt, .int .i64 1]) ∧ Below x.heap.size x z)
theorem OwnP.own {mk : Value → Value} {e : Ent} {w x : World} {r : Ending} (h : OwnP mk e w r x) : ∃ A B D, r = .returned (mk (entV A e.row.length e.row.length B e.qual.length e.qual.length D e.val.length e.val.length e)) ∧ CAt A e.row ∧ CAt B e.qual ∧ CAt D e.val ∧ OW w [clipO A e.row, clipO B e.qual, clipO D e.val] x := h
set_option maxRecDepth 100000 in
set_option maxHeartbeats 4000000 in
theorem at_any {x : World} {R g : Nat} {L : List Ent} (h : BkR x R g L) (hL : ∀ e, e ∈ L → e.row.length ≤ 140737488355000 ∧ e.qual.length ≤ 140737488355000 ∧ e.val.length ≤ 140737488355000) (i : Int) :
    Calls Tryz.prog 19 #[.pointer (some ⟨g, 0, none⟩), .int .i64 i] x (AtP L i x) := by
  have HR := Lib.hid (fun z (hz : Below x.heap.size x z) => h.later hz)
  obtain ⟨A, c, h1, he⟩ := h.c1
  obtain ⟨n, hn⟩ : ∃ z, z = L.length := ⟨_, rfl⟩
  rw [← hn] at h1 he
  have hg := h.lt
  have HC : Hid (∀ z, Below x.heap.size x z → z.cell? ⟨g, 1, none⟩ = some (.slice A n c)) := Lib.hid fun z hz => (hz.cell (p := ⟨g, 1, none⟩) hg).trans h1
  have HES : Hid (∀ z, Below x.heap.size x z → Ens z A n L) := Lib.hid fun z hz => he.later hz
  have HNL := Lib.hid hn
  have HLL := Lib.hid hL
  have HX := Lib.hid (OW.nil x)
  clear h h1 he hn hg hL
  by_cases hi : i < 0
  case pos =>
    have hd : decide (i < 0) = true := decide_eq_true hi
    go_enter Tryz.func19, Tryz.ntmps19
    go_wp2_with (first
      | (refine wl_alloc rfl rfl [.slice none 0 0, .int .i64 0, .slice none 0 0, .int .i64 0, .int .i64 0, .int .i64 0, .slice none 0 0] (.inl (by kernel_rfl)) HX.out ?_; intro gr x2 hz _; replace HX := Lib.hid hz; clear hz)
      | (refine wl_put rfl (.tmp 4) (.tmp 17) rfl HX.out 0 rfl rfl [.slice none 0 0, .int .i64 0, .slice none 0 0, .int .i64 0, .int .i64 0, .int .i64 0, .slice none 0 0] rfl rfl (by kernel_rfl) (by simp [Value.oneCell']) ?_; intro x9 hz _; have HY := Lib.hid hz; clear hz))
    refine bodyPost_ret (results_rowL1 rfl _ _ gr [.slice none 0 0, .int .i64 0, .slice none 0 0, .int .i64 0, .int .i64 0, .int .i64 0, .slice none 0 0] rfl (HY.out.range (i := 0) rfl) (by kernel_rfl) (by kernel_rfl)) rfl ?_
    exact .inr ⟨.inl hi, rfl, HY.out.up⟩
  have hd : decide (i < 0) = false := decide_eq_false hi
  obtain ⟨k, rfl⟩ : ∃ k : Nat, i = (k : Int) := ⟨i.toNat, by omega⟩
  by_cases hk : n ≤ k
  case pos =>
    have hd2 : decide ((k : Int) ≥ (n : Int)) = true := decide_eq_true (by omega)
    have HK : Hid (n ≤ k) := Lib.hid hk
    go_enter Tryz.func19, Tryz.ntmps19
    go_wp2_with (first
      | (refine wl_alloc rfl rfl [.slice none 0 0, .int .i64 0, .slice none 0 0, .int .i64 0, .int .i64 0, .int .i64 0, .slice none 0 0] (.inl (by kernel_rfl)) HX.out ?_; intro gr x2 hz _; replace HX := Lib.hid hz; clear hz)
      | (refine wpList_load_cell rfl 30 (.tmp 12) rfl rfl (HC.out _ HX.out.up) (fun w => Tryz.isAgg30 w) ?_)
      | (refine wl_put rfl (.tmp 4) (.tmp 17) rfl HX.out 0 rfl rfl [.slice none 0 0, .int .i64 0, .slice none 0 0, .int .i64 0, .int .i64 0, .int .i64 0, .slice none 0 0] rfl rfl (by kernel_rfl) (by simp [Value.oneCell']) ?_; intro x9 hz _; have HY := Lib.hid hz; clear hz))
    refine bodyPost_ret (results_rowL1 rfl _ _ gr [.slice none 0 0, .int .i64 0, .slice none 0 0, .int .i64 0, .int .i64 0, .int .i64 0, .slice none 0 0] rfl (HY.out.range (i := 0) rfl) (by kernel_rfl) (by kernel_rfl)) rfl ?_
    exact .inr ⟨.inr (by have := HK.out; rw [← HNL.out]; omega), rfl, HY.out.up⟩
  have hd2 : decide ((k : Int) ≥ (n : Int)) = false := decide_eq_false (by omega)
  obtain ⟨b, o, Ar, ec, B, d, D, q, e, rfl, hbl, hek, hrg, hen⟩ := (HES.out x (Below.refl _ _)).at_ (show k < n by omega)
  have HRG : Hid (∀ z, Below x.heap.size x z → z.rangeAt b (o + k * 7) [.slice Ar e.row.length ec, .int .i64 e.fam, .slice B e.qual.length d, .int .i64 e.ts, .int .i64 e.seq, .int .i64 e.kind, .slice D e.val.length q]) := Lib.hid fun z hz j v hj => (hz.cell (p := ⟨b, _, none⟩) hbl).trans (hrg j v hj)
  have HEN : Hid (∀ z, Below x.heap.size x z → En z Ar e.row.length ec B e.qual.length d D e.val.length q e) := Lib.hid fun z hz => hen.later hz
  have HEK := Lib.hid hek
  have HEB := Lib.hid (HLL.out e (List.mem_of_getElem? hek))
  have i1 : (0 : Int) ≤ (k : Int) := by omega
  have i2 : (k : Int) < (n : Int) := by omega
  clear hek hrg hen
  go_enter Tryz.func19, Tryz.ntmps19
  go_wp2_with (first
    | (refine wl_alloc rfl rfl [.slice none 0 0, .int .i64 0, .slice none 0 0, .int .i64 0, .int .i64 0, .int .i64 0, .slice none 0 0] (.inl (by kernel_rfl)) HX.out ?_; intro gr x2 hz _; replace HX := Lib.hid hz; clear hz)
    | (refine wpList_load_cell rfl 30 (.tmp 12) rfl rfl (HC.out _ HX.out.up) (fun w => Tryz.isAgg30 w) ?_)
    | (refine wpList_load_cell rfl 30 (.tmp 20) rfl rfl (HC.out _ HX.out.up) (fun w => Tryz.isAgg30 w) ?_)
    | (refine wpList_load_at rfl 46 (.tmp 23) rfl rfl (HRG.out _ HX.out.up) ent_row5 ?_)
    | (go_at_call 42; go_must (refine (own_any e Ar _ ec B _ d D _ q _ (HEN.out _ HX.out.up) HEB.out).mono ?_); rintro r x5 ⟨A1, B1, D1, rfl, hc1, hc2, hc3, hx⟩; have HC1 := Lib.hid (And.intro hc1 (And.intro hc2 hc3)); have HY := Lib.hid (HX.out.app hx); clear hc1 hc2 hc3 hx HX)
    | (refine wl_put rfl (.tmp 4) (.tmp 25) rfl HY.out 0 rfl rfl [.slice A1 e.row.length e.row.length, .int .i64 e.fam, .slice B1 e.qual.length e.qual.length, .int .i64 e.ts, .int .i64 e.seq, .int .i64 e.kind, .slice D1 e.val.length e.val.length] rfl rfl (by kernel_rfl) (by simp [Value.oneCell']) ?_; intro x9 hz _; have HQ := Lib.hid hz; clear hz))
  refine bodyPost_ret (results_rowL1 rfl _ _ gr [.slice A1 e.row.length e.row.length, .int .i64 e.fam, .slice B1 e.qual.length e.qual.length, .int .i64 e.ts, .int .i64 e.seq, .int .i64 e.kind, .slice D1 e.val.length e.val.length] rfl (HQ.out.range (i := 0) rfl) (by kernel_rfl) (by kernel_rfl)) rfl ?_
  exact .inl ⟨k, e, rfl, HEK.out, A1, B1, D1, rfl, HC1.out.1, HC1.out.2.1, HC1.out.2.2, HQ.out.sub ((List.Sublist.refl _).cons _)⟩
end Go.Proofs.YtmigjipfomfacaaGreatDoor
namespace Go.Proofs.YtmigjipfomfacaaGreatDoor
open Go.RowKit
set_option maxRecDepth 100000 in
set_option maxHeartbeats 2000000 in
theorem rp_N_f1a (b : List UInt8) (A : Option Addr) (n c : Nat) (w : World) (rw0 : List UInt8) (p1 er : Nat) (hs : Sl w A n c b) (hn : n ≤ 140737488355000) (h0 : readO b 0 = (rw0, p1, er)) (he : er ≠ 0) :
    Calls Tryz.prog 63 #[.slice A n c] w (EntPost (fun v => .tuple #[v, .int .i64 27]) noEnt w) := by
  have HS : Hid (∀ x, Below w.heap.size w x → Sl x A n c b) := Lib.hid fun x h => hs.later h
  have HX0 := Lib.hid (Bt.of (T := 5) (Bxs.three w 46 #[.slice none 0 0, .int .i64 0, .slice none 0 0, .int .i64 0, .int .i64 0, .int .i64 0, .slice none 0 0] #[.slice none 0 0, .int .i64 0, .slice none 0 0, .int .i64 0, .int .i64 0, .int .i64 0, .slice none 0 0] #[.slice none 0 0, .int .i64 0, .slice none 0 0, .int .i64 0, .int .i64 0, .int .i64 0, .slice none 0 0]))
  have H0 := Lib.hid h0
  have hd : ((er : Int) != 0) = true := by rw [bne_iff_ne]; omega
  have tO1 : True := trivial
  clear hs h0 he
  go_enter Tryz.func63, Tryz.ntmps63
  go_wp2_with (first
    | (go_at_call 85; have _t := tO1; go_must (refine (rRo_any b A n c 0 _ (HS.out _ HX0.out.box.up) hn).mono ?_); rw [H0.out]; rintro e x1 hp; obtain ⟨A1, c1, rfl, _, hO1, hb1⟩ := hp.at_ (n := rw0.length) rfl rfl rfl; have HX1 := Lib.hid (HX0.out.fresh hb1 hO1); clear hb1 hp hO1 tO1; have z0 := HX1.out.box.c0 (i := 0) (v := .slice none 0 0) rfl rfl; have n0 := HX1.out.box.c1 (i := 0) (v := .slice none 0 0) rfl rfl; have y0 := HX1.out.box.c2 (i := 0) (v := .slice none 0 0) rfl rfl; have z1 := HX1.out.box.c0 (i := 1) (v := .int .i64 0) rfl rfl; have n1 := HX1.out.box.c1 (i := 1) (v := .int .i64 0) rfl rfl; have y1 := HX1.out.box.c2 (i := 1) (v := .int .i64 0) rfl rfl; have z2 := HX1.out.box.c0 (i := 2) (v := .slice none 0 0) rfl rfl; have n2 := HX1.out.box.c1 (i := 2) (v := .slice none 0 0) rfl rfl; have y2 := HX1.out.box.c2 (i := 2) (v := .slice none 0 0) rfl rfl; have z3 := HX1.out.box.c0 (i := 3) (v := .int .i64 0) rfl rfl; have n3 := HX1.out.box.c1 (i := 3) (v := .int .i64 0) rfl rfl; have y3 := HX1.out.box.c2 (i := 3) (v := .int .i64 0) rfl rfl; have z4 := HX1.out.box.c0 (i := 4) (v := .int .i64 0) rfl rfl; have n4 := HX1.out.box.c1 (i := 4) (v := .int .i64 0) rfl rfl; have y4 := HX1.out.box.c2 (i := 4) (v := .int .i64 0) rfl rfl; have z5 := HX1.out.box.c0 (i := 5) (v := .int .i64 0) rfl rfl; have n5 := HX1.out.box.c1 (i := 5) (v := .int .i64 0) rfl rfl; have y5 := HX1.out.box.c2 (i := 5) (v := .int .i64 0) rfl rfl; have z6 := HX1.out.box.c0 (i := 6) (v := .slice none 0 0) rfl rfl; have n6 := HX1.out.box.c1 (i := 6) (v := .slice none 0 0) rfl rfl; have y6 := HX1.out.box.c2 (i := 6) (v := .slice none 0 0) rfl rfl; have fz := HX1.out.box.f0 rfl; have fy := HX1.out.box.f2 rfl))
  (try simp only [Exit.inBlock, Exit.then])
  have HR := Lib.hid ((HX1.out.fill7 rfl (.slice none 0 0) (.int .i64 0) (.slice none 0 0) (.int .i64 0) (.int .i64 0) (.int .i64 0) (.slice none 0 0)))
  refine bodyPost_ret (results_box1 rfl _ _ w.heap.size _ rfl (HR.out.box.cells0 rfl) (by kernel_rfl) (by kernel_rfl)) rfl ?_
  exact ent_none (mk := fun v => .tuple #[v, .int .i64 27]) HR.out.box.up
set_option maxRecDepth 100000 in
set_option maxHeartbeats 2000000 in
theorem rp_N_f1b (b : List UInt8) (A : Option Addr) (n c : Nat) (w : World) (row : List UInt8) (p1 : Nat) (hs : Sl w A n c b) (hn : n ≤ 140737488355000) (h0 : readO b 0 = (row, p1, 0)) (hp1 : p1 ≤ n) (hsh : n < p1 + 2) :
    Calls Tryz.prog 63 #[.slice A n c] w (EntPost (fun v => .tuple #[v, .int .i64 27]) noEnt w) := by
  have HS : Hid (∀ x, Below w.heap.size w x → Sl x A n c b) := Lib.hid fun x h => hs.later h
  have HX0 := Lib.hid (Bt.of (T := 5) (Bxs.three w 46 #[.slice none 0 0, .int .i64 0, .slice none 0 0, .int .i64 0, .int .i64 0, .int .i64 0, .slice none 0 0] #[.slice none 0 0, .int .i64 0, .slice none 0 0, .int .i64 0, .int .i64 0, .int .i64 0, .slice none 0 0] #[.slice none 0 0, .int .i64 0, .slice none 0 0, .int .i64 0, .int .i64 0, .int .i64 0, .slice none 0 0]))
  have H0 := Lib.hid h0
  have tO1 : True := trivial
  clear hs h0
  go_enter Tryz.func63, Tryz.ntmps63
  go_wp2_with (first
    | (go_at_call 85; have _t := tO1; go_must (refine (rRo_any b A n c 0 _ (HS.out _ HX0.out.box.up) hn).mono ?_); rw [H0.out]; rintro e x1 hp; obtain ⟨A1, c1, rfl, _, hO1, hb1⟩ := hp.at_ (n := row.length) rfl rfl rfl; have HX1 := Lib.hid (HX0.out.fresh hb1 hO1); clear hb1 hp hO1 tO1; have z0 := HX1.out.box.c0 (i := 0) (v := .slice none 0 0) rfl rfl; have n0 := HX1.out.box.c1 (i := 0) (v := .slice none 0 0) rfl rfl; have y0 := HX1.out.box.c2 (i := 0) (v := .slice none 0 0) rfl rfl; have z1 := HX1.out.box.c0 (i := 1) (v := .int .i64 0) rfl rfl; have n1 := HX1.out.box.c1 (i := 1) (v := .int .i64 0) rfl rfl; have y1 := HX1.out.box.c2 (i := 1) (v := .int .i64 0) rfl rfl; have z2 := HX1.out.box.c0 (i := 2) (v := .slice none 0 0) rfl rfl; have n2 := HX1.out.box.c1 (i := 2) (v := .slice none 0 0) rfl rfl; have y2 := HX1.out.box.c2 (i := 2) (v := .slice none 0 0) rfl rfl; have z3 := HX1.out.box.c0 (i := 3) (v := .int .i64 0) rfl rfl; have n3 := HX1.out.box.c1 (i := 3) (v := .int .i64 0) rfl rfl; have y3 := HX1.out.box.c2 (i := 3) (v := .int .i64 0) rfl rfl; have z4 := HX1.out.box.c0 (i := 4) (v := .int .i64 0) rfl rfl; have n4 := HX1.out.box.c1 (i := 4) (v := .int .i64 0) rfl rfl; have y4 := HX1.out.box.c2 (i := 4) (v := .int .i64 0) rfl rfl; have z5 := HX1.out.box.c0 (i := 5) (v := .int .i64 0) rfl rfl; have n5 := HX1.out.box.c1 (i := 5) (v := .int .i64 0) rfl rfl; have y5 := HX1.out.box.c2 (i := 5) (v := .int .i64 0) rfl rfl; have z6 := HX1.out.box.c0 (i := 6) (v := .slice none 0 0) rfl rfl; have n6 := HX1.out.box.c1 (i := 6) (v := .slice none 0 0) rfl rfl; have y6 := HX1.out.box.c2 (i := 6) (v := .slice none 0 0) rfl rfl; have fz := HX1.out.box.f0 rfl; have fy := HX1.out.box.f2 rfl))
  (try simp only [Exit.inBlock, Exit.then])
  have HR := Lib.hid ((HX1.out.fill7 rfl (.slice none 0 0) (.int .i64 0) (.slice none 0 0) (.int .i64 0) (.int .i64 0) (.int .i64 0) (.slice none 0 0)))
  refine bodyPost_ret (results_box1 rfl _ _ w.heap.size _ rfl (HR.out.box.cells0 rfl) (by kernel_rfl) (by kernel_rfl)) rfl ?_
  exact ent_none (mk := fun v => .tuple #[v, .int .i64 27]) HR.out.box.up
set_option maxRecDepth 100000 in
set_option maxHeartbeats 2000000 in
theorem rp_P_f2a (b : List UInt8) (A : Option Addr) (n c : Nat) (w : World) (row : List UInt8) (p1 : Nat) (f g : UInt8) (ql0 : List UInt8) (p2 er : Nat) (hs : Sl w A n c b) (hn : n ≤ 140737488355000) (h0 : readO b 0 = (row, p1, 0)) (hlen : p1 + 2 ≤ n) (hf : b[p1]? = some f) (hg : b[p1 + 1]? = some g) (hg0 : g.toNat ≠ 0) (h2 : readO b ((p1 + 2 : Nat) : Int) = (ql0, p2, er)) (he : er ≠ 0) :
    Calls Tryz.prog 63 #[.slice A n c] w (EntPost (fun v => .tuple #[v, .int .i64 27]) noEnt w) := by
  have HS : Hid (∀ x, Below w.heap.size w x → Sl x A n c b) := Lib.hid fun x h => hs.later h
  have HX0 := Lib.hid (Bt.of (T := 5) (Bxs.three w 46 #[.slice none 0 0, .int .i64 0, .slice none 0 0, .int .i64 0, .int .i64 0, .int .i64 0, .slice none 0 0] #[.slice none 0 0, .int .i64 0, .slice none 0 0, .int .i64 0, .int .i64 0, .int .i64 0, .slice none 0 0] #[.slice none 0 0, .int .i64 0, .slice none 0 0, .int .i64 0, .int .i64 0, .int .i64 0, .slice none 0 0]))
  have H0 := Lib.hid h0
  obtain ⟨bb, oo, _, rfl, hbb, _, _⟩ := hs.rb.at_ (k := p1) (by omega)
  have HC : Hid (∀ (j : Nat) (u : UInt8) x, b[j]? = some u → Below w.heap.size w x → x.cell? ⟨bb, oo + j, none⟩ = some (.int .u8 (u.toNat : Int))) := Lib.hid fun j u x hu hx => (hs.rb.later hx).cell hu
  have hbb0 : ¬ bb = w.heap.size := by omega
  have hbb1 : ¬ bb = w.heap.size + 1 := by omega
  have hbb2 : ¬ bb = w.heap.size + 1 + 1 := by omega
  have HF := Lib.hid hf
  have HG := Lib.hid hg
  have hgd : ((g.toNat : Int) != 0) = true := by rw [bne_iff_ne]; omega
  have H2 := Lib.hid h2
  have hd : ((er : Int) != 0) = true := by rw [bne_iff_ne]; omega
  have q1 : (p1 : Int) < (n : Int) := by omega
  have q2 : (p1 : Int) + 1 < (n : Int) := by omega
  have q3 : decide ((n : Int) < (p1 : Int) + 2) = false := decide_eq_false (by omega)
  have q8 : wrap64 ((f.toNat : Nat) : Int) = (f.toNat : Int) := wrap64_id (by omega) (by have := f.toNat_lt; omega)
  have q9 : IntKind.i64.wrap ((f.toNat : Nat) : Int) = (f.toNat : Int) := i64_sum (by omega) (by have := f.toNat_lt; omega)
  have tO1 : True := trivial
  have tO2 : True := trivial
  clear hs h0 hf hg hg0 h2 he
  go_enter Tryz.func63, Tryz.ntmps63
  go_wp2_with (first
    | (go_at_call 85; have _t := tO1; go_must (refine (rRo_any b (some ⟨bb, oo, none⟩) n c 0 _ (HS.out _ HX0.out.box.up) hn).mono ?_); rw [H0.out]; rintro e x1 hp; obtain ⟨A1, c1, rfl, _, hO1, hb1⟩ := hp.at_ (n := row.length) rfl rfl rfl; have HX1 := Lib.hid (HX0.out.fresh hb1 hO1); clear hb1 hp hO1 tO1; have z0 := HX1.out.box.c0 (i := 0) (v := .slice none 0 0) rfl rfl; have n0 := HX1.out.box.c1 (i := 0) (v := .slice none 0 0) rfl rfl; have y0 := HX1.out.box.c2 (i := 0) (v := .slice none 0 0) rfl rfl; have z1 := HX1.out.box.c0 (i := 1) (v := .int .i64 0) rfl rfl; have n1 := HX1.out.box.c1 (i := 1) (v := .int .i64 0) rfl rfl; have y1 := HX1.out.box.c2 (i := 1) (v := .int .i64 0) rfl rfl; have z2 := HX1.out.box.c0 (i := 2) (v := .slice none 0 0) rfl rfl; have n2 := HX1.out.box.c1 (i := 2) (v := .slice none 0 0) rfl rfl; have y2 := HX1.out.box.c2 (i := 2) (v := .slice none 0 0) rfl rfl; have z3 := HX1.out.box.c0 (i := 3) (v := .int .i64 0) rfl rfl; have n3 := HX1.out.box.c1 (i := 3) (v := .int .i64 0) rfl rfl; have y3 := HX1.out.box.c2 (i := 3) (v := .int .i64 0) rfl rfl; have z4 := HX1.out.box.c0 (i := 4) (v := .int .i64 0) rfl rfl; have n4 := HX1.out.box.c1 (i := 4) (v := .int .i64 0) rfl rfl; have y4 := HX1.out.box.c2 (i := 4) (v := .int .i64 0) rfl rfl; have z5 := HX1.out.box.c0 (i := 5) (v := .int .i64 0) rfl rfl; have n5 := HX1.out.box.c1 (i := 5) (v := .int .i64 0) rfl rfl; have y5 := HX1.out.box.c2 (i := 5) (v := .int .i64 0) rfl rfl; have z6 := HX1.out.box.c0 (i := 6) (v := .slice none 0 0) rfl rfl; have n6 := HX1.out.box.c1 (i := 6) (v := .slice none 0 0) rfl rfl; have y6 := HX1.out.box.c2 (i := 6) (v := .slice none 0 0) rfl rfl; have fz := HX1.out.box.f0 rfl; have fy := HX1.out.box.f2 rfl; have g1 := HC.out p1 f _ HF.out HX1.out.box.up; have g2 := HC.out (p1 + 1) g _ HG.out HX1.out.box.up)
    | (go_at_call 85; have _t := tO2; go_must (refine (rRo_any b (some ⟨bb, oo, none⟩) n c _ _ (HS.out _ ((HX1.out.s2_0 (.slice A1 row.length c1)).s2_1 (.int .i64 (f.toNat : Int))).box.up) hn).mono ?_); rw [show ((p1 : Int) + 2) = ((p1 + 2 : Nat) : Int) from by omega, H2.out]; rintro e x2 hp; obtain ⟨A2, c2, rfl, _, hO2, hb2⟩ := hp.at_ (n := ql0.length) rfl rfl rfl; have HX2 := Lib.hid (((HX1.out.s2_0 (.slice A1 row.length c1)).s2_1 (.int .i64 (f.toNat : Int))).fresh hb2 hO2); clear hb2 hp hO2 tO2 g1 g2; clear z0 y0 n0 z1 y1 n1 z2 y2 n2 z3 y3 n3 z4 y4 n4 z5 y5 n5 z6 y6 n6 fz fy; have z0 := HX2.out.box.c0 (i := 0) (v := .slice none 0 0) rfl rfl; have n0 := HX2.out.box.c1 (i := 0) (v := .slice none 0 0) rfl rfl; have y0 := HX2.out.box.c2 (i := 0) (v := .slice A1 row.length c1) rfl rfl; have z1 := HX2.out.box.c0 (i := 1) (v := .int .i64 0) rfl rfl; have n1 := HX2.out.box.c1 (i := 1) (v := .int .i64 0) rfl rfl; have y1 := HX2.out.box.c2 (i := 1) (v := .int .i64 (f.toNat : Int)) rfl rfl; have z2 := HX2.out.box.c0 (i := 2) (v := .slice none 0 0) rfl rfl; have n2 := HX2.out.box.c1 (i := 2) (v := .slice none 0 0) rfl rfl; have y2 := HX2.out.box.c2 (i := 2) (v := .slice none 0 0) rfl rfl; have z3 := HX2.out.box.c0 (i := 3) (v := .int .i64 0) rfl rfl; have n3 := HX2.out.box.c1 (i := 3) (v := .int .i64 0) rfl rfl; have y3 := HX2.out.box.c2 (i := 3) (v := .int .i64 0) rfl rfl; have z4 := HX2.out.box.c0 (i := 4) (v := .int .i64 0) rfl rfl; have n4 := HX2.out.box.c1 (i := 4) (v := .int .i64 0) rfl rfl; have y4 := HX2.out.box.c2 (i := 4) (v := .int .i64 0) rfl rfl; have z5 := HX2.out.box.c0 (i := 5) (v := .int .i64 0) rfl rfl; have n5 := HX2.out.box.c1 (i := 5) (v := .int .i64 0) rfl rfl; have y5 := HX2.out.box.c2 (i := 5) (v := .int .i64 0) rfl rfl; have z6 := HX2.out.box.c0 (i := 6) (v := .slice none 0 0) rfl rfl; have n6 := HX2.out.box.c1 (i := 6) (v := .slice none 0 0) rfl rfl; have y6 := HX2.out.box.c2 (i := 6) (v := .slice none 0 0) rfl rfl; have fz := HX2.out.box.f0 rfl; have fy := HX2.out.box.f2 rfl))
  (try simp only [Exit.inBlock, Exit.then])
  have HR := Lib.hid (((HX2.out.s2_2 (.slice A2 ql0.length c2)).fill7 rfl (.slice none 0 0) (.int .i64 0) (.slice none 0 0) (.int .i64 0) (.int .i64 0) (.int .i64 0) (.slice none 0 0)))
  refine bodyPost_ret (results_box1 rfl _ _ w.heap.size _ rfl (HR.out.box.cells0 rfl) (by kernel_rfl) (by kernel_rfl)) rfl ?_
  exact ent_none (mk := fun v => .tuple #[v, .int .i64 27]) HR.out.box.up
set_option maxRecDepth 100000 in
set_option maxHeartbeats 2000000 in
theorem rp_P_f2b (b : List UInt8) (A : Option Addr) (n c : Nat) (w : World) (row : List UInt8) (p1 : Nat) (f g : UInt8) (qual : List UInt8) (p2 : Nat) (hs : Sl w A n c b) (hn : n ≤ 140737488355000) (h0 : readO b 0 = (row, p1, 0)) (hlen : p1 + 2 ≤ n) (hf : b[p1]? = some f) (hg : b[p1 + 1]? = some g) (hg0 : g.toNat ≠ 0) (h2 : readO b ((p1 + 2 : Nat) : Int) = (qual, p2, 0)) (hp2 : p2 ≤ n) (hsh : n ≤ p2) :
    Calls Tryz.prog 63 #[.slice A n c] w (EntPost (fun v => .tuple #[v, .int .i64 27]) noEnt w) := by
  have HS : Hid (∀ x, Below w.heap.size w x → Sl x A n c b) := Lib.hid fun x h => hs.later h
  have HX0 := Lib.hid (Bt.of (T := 5) (Bxs.three w 46 #[.slice none 0 0, .int .i64 0, .slice none 0 0, .int .i64 0, .int .i64 0, .int .i64 0, .slice none 0 0] #[.slice none 0 0, .int .i64 0, .slice none 0 0, .int .i64 0, .int .i64 0, .int .i64 0, .slice none 0 0] #[.slice none 0 0, .int .i64 0, .slice none 0 0, .int .i64 0, .int .i64 0, .int .i64 0, .slice none 0 0]))
  have H0 := Lib.hid h0
  obtain ⟨bb, oo, _, rfl, hbb, _, _⟩ := hs.rb.at_ (k := p1) (by omega)
  have HC : Hid (∀ (j : Nat) (u : UInt8) x, b[j]? = some u → Below w.heap.size w x → x.cell? ⟨bb, oo + j, none⟩ = some (.int .u8 (u.toNat : Int))) := Lib.hid fun j u x hu hx => (hs.rb.later hx).cell hu
  have hbb0 : ¬ bb = w.heap.size := by omega
  have hbb1 : ¬ bb = w.heap.size + 1 := by omega
  have hbb2 : ¬ bb = w.heap.size + 1 + 1 := by omega
  have HF := Lib.hid hf
  have HG := Lib.hid hg
  have hgd : ((g.toNat : Int) != 0) = true := by rw [bne_iff_ne]; omega
  have H2 := Lib.hid h2
  have q1 : (p1 : Int) < (n : Int) := by omega
  have q2 : (p1 : Int) + 1 < (n : Int) := by omega
  have q3 : decide ((n : Int) < (p1 : Int) + 2) = false := decide_eq_false (by omega)
  have q8 : wrap64 ((f.toNat : Nat) : Int) = (f.toNat : Int) := wrap64_id (by omega) (by have := f.toNat_lt; omega)
  have q9 : IntKind.i64.wrap ((f.toNat : Nat) : Int) = (f.toNat : Int) := i64_sum (by omega) (by have := f.toNat_lt; omega)
  have tO1 : True := trivial
  have tO2 : True := trivial
  clear hs h0 hf hg hg0 h2
  go_enter Tryz.func63, Tryz.ntmps63
  go_wp2_with (first
    | (go_at_call 85; have _t := tO1; go_must (refine (rRo_any b (some ⟨bb, oo, none⟩) n c 0 _ (HS.out _ HX0.out.box.up) hn).mono ?_); rw [H0.out]; rintro e x1 hp; obtain ⟨A1, c1, rfl, _, hO1, hb1⟩ := hp.at_ (n := row.length) rfl rfl rfl; have HX1 := Lib.hid (HX0.out.fresh hb1 hO1); clear hb1 hp hO1 tO1; have z0 := HX1.out.box.c0 (i := 0) (v := .slice none 0 0) rfl rfl; have n0 := HX1.out.box.c1 (i := 0) (v := .slice none 0 0) rfl rfl; have y0 := HX1.out.box.c2 (i := 0) (v := .slice none 0 0) rfl rfl; have z1 := HX1.out.box.c0 (i := 1) (v := .int .i64 0) rfl rfl; have n1 := HX1.out.box.c1 (i := 1) (v := .int .i64 0) rfl rfl; have y1 := HX1.out.box.c2 (i := 1) (v := .int .i64 0) rfl rfl; have z2 := HX1.out.box.c0 (i := 2) (v := .slice none 0 0) rfl rfl; have n2 := HX1.out.box.c1 (i := 2) (v := .slice none 0 0) rfl rfl; have y2 := HX1.out.box.c2 (i := 2) (v := .slice none 0 0) rfl rfl; have z3 := HX1.out.box.c0 (i := 3) (v := .int .i64 0) rfl rfl; have n3 := HX1.out.box.c1 (i := 3) (v := .int .i64 0) rfl rfl; have y3 := HX1.out.box.c2 (i := 3) (v := .int .i64 0) rfl rfl; have z4 := HX1.out.box.c0 (i := 4) (v := .int .i64 0) rfl rfl; have n4 := HX1.out.box.c1 (i := 4) (v := .int .i64 0) rfl rfl; have y4 := HX1.out.box.c2 (i := 4) (v := .int .i64 0) rfl rfl; have z5 := HX1.out.box.c0 (i := 5) (v := .int .i64 0) rfl rfl; have n5 := HX1.out.box.c1 (i := 5) (v := .int .i64 0) rfl rfl; have y5 := HX1.out.box.c2 (i := 5) (v := .int .i64 0) rfl rfl; have z6 := HX1.out.box.c0 (i := 6) (v := .slice none 0 0) rfl rfl; have n6 := HX1.out.box.c1 (i := 6) (v := .slice none 0 0) rfl rfl; have y6 := HX1.out.box.c2 (i := 6) (v := .slice none 0 0) rfl rfl; have fz := HX1.out.box.f0 rfl; have fy := HX1.out.box.f2 rfl; have g1 := HC.out p1 f _ HF.out HX1.out.box.up; have g2 := HC.out (p1 + 1) g _ HG.out HX1.out.box.up)
    | (go_at_call 85; have _t := tO2; go_must (refine (rRo_any b (some ⟨bb, oo, none⟩) n c _ _ (HS.out _ ((HX1.out.s2_0 (.slice A1 row.length c1)).s2_1 (.int .i64 (f.toNat : Int))).box.up) hn).mono ?_); rw [show ((p1 : Int) + 2) = ((p1 + 2 : Nat) : Int) from by omega, H2.out]; rintro e x2 hp; obtain ⟨A2, c2, rfl, _, hO2, hb2⟩ := hp.at_ (n := qual.length) rfl rfl rfl; have HX2 := Lib.hid (((HX1.out.s2_0 (.slice A1 row.length c1)).s2_1 (.int .i64 (f.toNat : Int))).fresh hb2 hO2); clear hb2 hp hO2 tO2 g1 g2; clear z0 y0 n0 z1 y1 n1 z2 y2 n2 z3 y3 n3 z4 y4 n4 z5 y5 n5 z6 y6 n6 fz fy; have z0 := HX2.out.box.c0 (i := 0) (v := .slice none 0 0) rfl rfl; have n0 := HX2.out.box.c1 (i := 0) (v := .slice none 0 0) rfl rfl; have y0 := HX2.out.box.c2 (i := 0) (v := .slice A1 row.length c1) rfl rfl; have z1 := HX2.out.box.c0 (i := 1) (v := .int .i64 0) rfl rfl; have n1 := HX2.out.box.c1 (i := 1) (v := .int .i64 0) rfl rfl; have y1 := HX2.out.box.c2 (i := 1) (v := .int .i64 (f.toNat : Int)) rfl rfl; have z2 := HX2.out.box.c0 (i := 2) (v := .slice none 0 0) rfl rfl; have n2 := HX2.out.box.c1 (i := 2) (v := .slice none 0 0) rfl rfl; have y2 := HX2.out.box.c2 (i := 2) (v := .slice none 0 0) rfl rfl; have z3 := HX2.out.box.c0 (i := 3) (v := .int .i64 0) rfl rfl; have n3 := HX2.out.box.c1 (i := 3) (v := .int .i64 0) rfl rfl; have y3 := HX2.out.box.c2 (i := 3) (v := .int .i64 0) rfl rfl; have z4 := HX2.out.box.c0 (i := 4) (v := .int .i64 0) rfl rfl; have n4 := HX2.out.box.c1 (i := 4) (v := .int .i64 0) rfl rfl; have y4 := HX2.out.box.c2 (i := 4) (v := .int .i64 0) rfl rfl; have z5 := HX2.out.box.c0 (i := 5) (v := .int .i64 0) rfl rfl; have n5 := HX2.out.box.c1 (i := 5) (v := .int .i64 0) rfl rfl; have y5 := HX2.out.box.c2 (i := 5) (v := .int .i64 0) rfl rfl; have z6 := HX2.out.box.c0 (i := 6) (v := .slice none 0 0) rfl rfl; have n6 := HX2.out.box.c1 (i := 6) (v := .slice none 0 0) rfl rfl; have y6 := HX2.out.box.c2 (i := 6) (v := .slice none 0 0) rfl rfl; have fz := HX2.out.box.f0 rfl; have fy := HX2.out.box.f2 rfl))
  (try simp only [Exit.inBlock, Exit.then])
  have HR := Lib.hid (((HX2.out.s2_2 (.slice A2 qual.length c2)).fill7 rfl (.slice none 0 0) (.int .i64 0) (.slice none 0 0) (.int .i64 0) (.int .i64 0) (.int .i64 0) (.slice none 0 0)))
  refine bodyPost_ret (results_box1 rfl _ _ w.heap.size _ rfl (HR.out.box.cells0 rfl) (by kernel_rfl) (by kernel_rfl)) rfl ?_
  exact ent_none (mk := fun v => .tuple #[v, .int .i64 27]) HR.out.box.up
set_option maxRecDepth 100000 in
set_option maxHeartbeats 2000000 in
theorem rp_P_f3 (b : List UInt8) (A : Option Addr) (n c : Nat) (w : World) (row : List UInt8) (p1 : Nat) (f g : UInt8) (qual : List UInt8) (p2 : Nat) (t p3 er : Nat) (hs : Sl w A n c b) (hn : n ≤ 140737488355000) (h0 : readO b 0 = (row, p1, 0)) (hlen : p1 + 2 ≤ n) (hf : b[p1]? = some f) (hg : b[p1 + 1]? = some g) (hg0 : g.toNat ≠ 0) (h2 : readO b ((p1 + 2 : Nat) : Int) = (qual, p2, 0)) (hlen2 : p2 < n) (h3 : readFl b (((p2 + 1) : Nat) : Int) = (t, p3, er)) (he : er ≠ 0) :
    Calls Tryz.prog 63 #[.slice A n c] w (EntPost (fun v => .tuple #[v, .int .i64 27]) noEnt w) := by
  have HS : Hid (∀ x, Below w.heap.size w x → Sl x A n c b) := Lib.hid fun x h => hs.later h
  have HX0 := Lib.hid (Bt.of (T := 5) (Bxs.three w 46 #[.slice none 0 0, .int .i64 0, .slice none 0 0, .int .i64 0, .int .i64 0, .int .i64 0, .slice none 0 0] #[.slice none 0 0, .int .i64 0, .slice none 0 0, .int .i64 0, .int .i64 0, .int .i64 0, .slice none 0 0] #[.slice none 0 0, .int .i64 0, .slice none 0 0, .int .i64 0, .int .i64 0, .int .i64 0, .slice none 0 0]))
  have H0 := Lib.hid h0
  obtain ⟨bb, oo, _, rfl, hbb, _, _⟩ := hs.rb.at_ (k := p1) (by omega)
  have HC : Hid (∀ (j : Nat) (u : UInt8) x, b[j]? = some u → Below w.heap.size w x → x.cell? ⟨bb, oo + j, none⟩ = some (.int .u8 (u.toNat : Int))) := Lib.hid fun j u x hu hx => (hs.rb.later hx).cell hu
  have hbb0 : ¬ bb = w.heap.size := by omega
  have hbb1 : ¬ bb = w.heap.size + 1 := by omega
  have hbb2 : ¬ bb = w.heap.size + 1 + 1 := by omega
  have HF := Lib.hid hf
  have HG := Lib.hid hg
  have hgd : ((g.toNat : Int) != 0) = true := by rw [bne_iff_ne]; omega
  have H2 := Lib.hid h2
  have H3 := Lib.hid h3
  have hd : ((er : Int) != 0) = true := by rw [bne_iff_ne]; omega
  have q1 : (p1 : Int) < (n : Int) := by omega
  have q2 : (p1 : Int) + 1 < (n : Int) := by omega
  have q3 : decide ((n : Int) < (p1 : Int) + 2) = false := decide_eq_false (by omega)
  have q4 : (p2 : Int) < (n : Int) := by omega
  have q8 : wrap64 ((f.toNat : Nat) : Int) = (f.toNat : Int) := wrap64_id (by omega) (by have := f.toNat_lt; omega)
  have q9 : IntKind.i64.wrap ((f.toNat : Nat) : Int) = (f.toNat : Int) := i64_sum (by omega) (by have := f.toNat_lt; omega)
  have tO1 : True := trivial
  have tO2 : True := trivial
  have tF1 : True := trivial
  clear hs h0 hf hg hg0 h2 h3 he
  go_enter Tryz.func63, Tryz.ntmps63
  go_wp2_with (first
    | (go_at_call 85; have _t := tO1; go_must (refine (rRo_any b (some ⟨bb, oo, none⟩) n c 0 _ (HS.out _ HX0.out.box.up) hn).mono ?_); rw [H0.out]; rintro e x1 hp; obtain ⟨A1, c1, rfl, _, hO1, hb1⟩ := hp.at_ (n := row.length) rfl rfl rfl; have HX1 := Lib.hid (HX0.out.fresh hb1 hO1); clear hb1 hp hO1 tO1; have z0 := HX1.out.box.c0 (i := 0) (v := .slice none 0 0) rfl rfl; have n0 := HX1.out.box.c1 (i := 0) (v := .slice none 0 0) rfl rfl; have y0 := HX1.out.box.c2 (i := 0) (v := .slice none 0 0) rfl rfl; have z1 := HX1.out.box.c0 (i := 1) (v := .int .i64 0) rfl rfl; have n1 := HX1.out.box.c1 (i := 1) (v := .int .i64 0) rfl rfl; have y1 := HX1.out.box.c2 (i := 1) (v := .int .i64 0) rfl rfl; have z2 := HX1.out.box.c0 (i := 2) (v := .slice none 0 0) rfl rfl; have n2 := HX1.out.box.c1 (i := 2) (v := .slice none 0 0) rfl rfl; have y2 := HX1.out.box.c2 (i := 2) (v := .slice none 0 0) rfl rfl; have z3 := HX1.out.box.c0 (i := 3) (v := .int .i64 0) rfl rfl; have n3 := HX1.out.box.c1 (i := 3) (v := .int .i64 0) rfl rfl; have y3 := HX1.out.box.c2 (i := 3) (v := .int .i64 0) rfl rfl; have z4 := HX1.out.box.c0 (i := 4) (v := .int .i64 0) rfl rfl; have n4 := HX1.out.box.c1 (i := 4) (v := .int .i64 0) rfl rfl; have y4 := HX1.out.box.c2 (i := 4) (v := .int .i64 0) rfl rfl; have z5 := HX1.out.box.c0 (i := 5) (v := .int .i64 0) rfl rfl; have n5 := HX1.out.box.c1 (i := 5) (v := .int .i64 0) rfl rfl; have y5 := HX1.out.box.c2 (i := 5) (v := .int .i64 0) rfl rfl; have z6 := HX1.out.box.c0 (i := 6) (v := .slice none 0 0) rfl rfl; have n6 := HX1.out.box.c1 (i := 6) (v := .slice none 0 0) rfl rfl; have y6 := HX1.out.box.c2 (i := 6) (v := .slice none 0 0) rfl rfl; have fz := HX1.out.box.f0 rfl; have fy := HX1.out.box.f2 rfl; have g1 := HC.out p1 f _ HF.out HX1.out.box.up; have g2 := HC.out (p1 + 1) g _ HG.out HX1.out.box.up)
    | (go_at_call 85; have _t := tO2; go_must (refine (rRo_any b (some ⟨bb, oo, none⟩) n c _ _ (HS.out _ ((HX1.out.s2_0 (.slice A1 row.length c1)).s2_1 (.int .i64 (f.toNat : Int))).box.up) hn).mono ?_); rw [show ((p1 : Int) + 2) = ((p1 + 2 : Nat) : Int) from by omega, H2.out]; rintro e x2 hp; obtain ⟨A2, c2, rfl, _, hO2, hb2⟩ := hp.at_ (n := qual.length) rfl rfl rfl; have HX2 := Lib.hid (((HX1.out.s2_0 (.slice A1 row.length c1)).s2_1 (.int .i64 (f.toNat : Int))).fresh hb2 hO2); clear hb2 hp hO2 tO2 g1 g2; clear z0 y0 n0 z1 y1 n1 z2 y2 n2 z3 y3 n3 z4 y4 n4 z5 y5 n5 z6 y6 n6 fz fy; have z0 := HX2.out.box.c0 (i := 0) (v := .slice none 0 0) rfl rfl; have n0 := HX2.out.box.c1 (i := 0) (v := .slice none 0 0) rfl rfl; have y0 := HX2.out.box.c2 (i := 0) (v := .slice A1 row.length c1) rfl rfl; have z1 := HX2.out.box.c0 (i := 1) (v := .int .i64 0) rfl rfl; have n1 := HX2.out.box.c1 (i := 1) (v := .int .i64 0) rfl rfl; have y1 := HX2.out.box.c2 (i := 1) (v := .int .i64 (f.toNat : Int)) rfl rfl; have z2 := HX2.out.box.c0 (i := 2) (v := .slice none 0 0) rfl rfl; have n2 := HX2.out.box.c1 (i := 2) (v := .slice none 0 0) rfl rfl; have y2 := HX2.out.box.c2 (i := 2) (v := .slice none 0 0) rfl rfl; have z3 := HX2.out.box.c0 (i := 3) (v := .int .i64 0) rfl rfl; have n3 := HX2.out.box.c1 (i := 3) (v := .int .i64 0) rfl rfl; have y3 := HX2.out.box.c2 (i := 3) (v := .int .i64 0) rfl rfl; have z4 := HX2.out.box.c0 (i := 4) (v := .int .i64 0) rfl rfl; have n4 := HX2.out.box.c1 (i := 4) (v := .int .i64 0) rfl rfl; have y4 := HX2.out.box.c2 (i := 4) (v := .int .i64 0) rfl rfl; have z5 := HX2.out.box.c0 (i := 5) (v := .int .i64 0) rfl rfl; have n5 := HX2.out.box.c1 (i := 5) (v := .int .i64 0) rfl rfl; have y5 := HX2.out.box.c2 (i := 5) (v := .int .i64 0) rfl rfl; have z6 := HX2.out.box.c0 (i := 6) (v := .slice none 0 0) rfl rfl; have n6 := HX2.out.box.c1 (i := 6) (v := .slice none 0 0) rfl rfl; have y6 := HX2.out.box.c2 (i := 6) (v := .slice none 0 0) rfl rfl; have fz := HX2.out.box.f0 rfl; have fy := HX2.out.box.f2 rfl)
    | (go_at_call 86; have _t := tF1; go_must (refine (rRfl_any b (some ⟨bb, oo, none⟩) n c _ _ (HS.out _ (HX2.out.s2_2 (.slice A2 qual.length c2)).box.up) hn).mono ?_); rw [show ((p2 : Int) + 1) = ((p2 + 1 : Nat) : Int) from by omega, H3.out]; rintro e x3 ⟨rfl, rfl⟩; clear tF1))
  (try simp only [Exit.inBlock, Exit.then])
  have HR := Lib.hid ((((HX2.out.s2_2 (.slice A2 qual.length c2)).s2_3 (.int .i64 (t : Int))).fill7 rfl (.slice none 0 0) (.int .i64 0) (.slice none 0 0) (.int .i64 0) (.int .i64 0) (.int .i64 0) (.slice none 0 0)))
  refine bodyPost_ret (results_box1 rfl _ _ w.heap.size _ rfl (HR.out.box.cells0 rfl) (by kernel_rfl) (by kernel_rfl)) rfl ?_
  exact ent_none (mk := fun v => .tuple #[v, .int .i64 27]) HR.out.box.up
set_option maxRecDepth 100000 in
set_option maxHeartbeats 2000000 in
theorem rp_P_f4a (b : List UInt8) (A : Option Addr) (n c : Nat) (w : World) (row : List UInt8) (p1 : Nat) (f g : UInt8) (qual : List UInt8) (p2 : Nat) (t p3 : Nat) (s p4 er : Nat) (hs : Sl w A n c b) (hn : n ≤ 140737488355000) (h0 : readO b 0 = (row, p1, 0)) (hlen : p1 + 2 ≤ n) (hf : b[p1]? = some f) (hg : b[p1 + 1]? = some g) (hg0 : g.toNat ≠ 0) (h2 : readO b ((p1 + 2 : Nat) : Int) = (qual, p2, 0)) (hlen2 : p2 < n) (h3 : readFl b (((p2 + 1) : Nat) : Int) = (t, p3, 0)) (h4 : readFl b (p3 : Int) = (s, p4, er)) (he : er ≠ 0) :
    Calls Tryz.prog 63 #[.slice A n c] w (EntPost (fun v => .tuple #[v, .int .i64 27]) noEnt w) := by
  have HS : Hid (∀ x, Below w.heap.size w x → Sl x A n c b) := Lib.hid fun x h => hs.later h
  have HX0 := Lib.hid (Bt.of (T := 5) (Bxs.three w 46 #[.slice none 0 0, .int .i64 0, .slice none 0 0, .int .i64 0, .int .i64 0, .int .i64 0, .slice none 0 0] #[.slice none 0 0, .int .i64 0, .slice none 0 0, .int .i64 0, .int .i64 0, .int .i64 0, .slice none 0 0] #[.slice none 0 0, .int .i64 0, .slice none 0 0, .int .i64 0, .int .i64 0, .int .i64 0, .slice none 0 0]))
  have H0 := Lib.hid h0
  obtain ⟨bb, oo, _, rfl, hbb, _, _⟩ := hs.rb.at_ (k := p1) (by omega)
  have HC : Hid (∀ (j : Nat) (u : UInt8) x, b[j]? = some u → Below w.heap.size w x → x.cell? ⟨bb, oo + j, none⟩ = some (.int .u8 (u.toNat : Int))) := Lib.hid fun j u x hu hx => (hs.rb.later hx).cell hu
  have hbb0 : ¬ bb = w.heap.size := by omega
  have hbb1 : ¬ bb = w.heap.size + 1 := by omega
  have hbb2 : ¬ bb = w.heap.size + 1 + 1 := by omega
  have HF := Lib.hid hf
  have HG := Lib.hid hg
  have hgd : ((g.toNat : Int) != 0) = true := by rw [bne_iff_ne]; omega
  have H2 := Lib.hid h2
  have H3 := Lib.hid h3
  have H4 := Lib.hid h4
  have hd : ((er : Int) != 0) = true := by rw [bne_iff_ne]; omega
  have q1 : (p1 : Int) < (n : Int) := by omega
  have q2 : (p1 : Int) + 1 < (n : Int) := by omega
  have q3 : decide ((n : Int) < (p1 : Int) + 2) = false := decide_eq_false (by omega)
  have q4 : (p2 : Int) < (n : Int) := by omega
  have q8 : wrap64 ((f.toNat : Nat) : Int) = (f.toNat : Int) := wrap64_id (by omega) (by have := f.toNat_lt; omega)
  have q9 : IntKind.i64.wrap ((f.toNat : Nat) : Int) = (f.toNat : Int) := i64_sum (by omega) (by have := f.toNat_lt; omega)
  have tO1 : True := trivial
  have tO2 : True := trivial
  have tF1 : True := trivial
  clear hs h0 hf hg hg0 h2 h3 h4 he
  go_enter Tryz.func63, Tryz.ntmps63
  go_wp2_with (first
    | (go_at_call 85; have _t := tO1; go_must (refine (rRo_any b (some ⟨bb, oo, none⟩) n c 0 _ (HS.out _ HX0.out.box.up) hn).mono ?_); rw [H0.out]; rintro e x1 hp; obtain ⟨A1, c1, rfl, _, hO1, hb1⟩ := hp.at_ (n := row.length) rfl rfl rfl; have HX1 := Lib.hid (HX0.out.fresh hb1 hO1); clear hb1 hp hO1 tO1; have z0 := HX1.out.box.c0 (i := 0) (v := .slice none 0 0) rfl rfl; have n0 := HX1.out.box.c1 (i := 0) (v := .slice none 0 0) rfl rfl; have y0 := HX1.out.box.c2 (i := 0) (v := .slice none 0 0) rfl rfl; have z1 := HX1.out.box.c0 (i := 1) (v := .int .i64 0) rfl rfl; have n1 := HX1.out.box.c1 (i := 1) (v := .int .i64 0) rfl rfl; have y1 := HX1.out.box.c2 (i := 1) (v := .int .i64 0) rfl rfl; have z2 := HX1.out.box.c0 (i := 2) (v := .slice none 0 0) rfl rfl; have n2 := HX1.out.box.c1 (i := 2) (v := .slice none 0 0) rfl rfl; have y2 := HX1.out.box.c2 (i := 2) (v := .slice none 0 0) rfl rfl; have z3 := HX1.out.box.c0 (i := 3) (v := .int .i64 0) rfl rfl; have n3 := HX1.out.box.c1 (i := 3) (v := .int .i64 0) rfl rfl; have y3 := HX1.out.box.c2 (i := 3) (v := .int .i64 0) rfl rfl; have z4 := HX1.out.box.c0 (i := 4) (v := .int .i64 0) rfl rfl; have n4 := HX1.out.box.c1 (i := 4) (v := .int .i64 0) rfl rfl; have y4 := HX1.out.box.c2 (i := 4) (v := .int .i64 0) rfl rfl; have z5 := HX1.out.box.c0 (i := 5) (v := .int .i64 0) rfl rfl; have n5 := HX1.out.box.c1 (i := 5) (v := .int .i64 0) rfl rfl; have y5 := HX1.out.box.c2 (i := 5) (v := .int .i64 0) rfl rfl; have z6 := HX1.out.box.c0 (i := 6) (v := .slice none 0 0) rfl rfl; have n6 := HX1.out.box.c1 (i := 6) (v := .slice none 0 0) rfl rfl; have y6 := HX1.out.box.c2 (i := 6) (v := .slice none 0 0) rfl rfl; have fz := HX1.out.box.f0 rfl; have fy := HX1.out.box.f2 rfl; have g1 := HC.out p1 f _ HF.out HX1.out.box.up; have g2 := HC.out (p1 + 1) g _ HG.out HX1.out.box.up)
    | (go_at_call 85; have _t := tO2; go_must (refine (rRo_any b (some ⟨bb, oo, none⟩) n c _ _ (HS.out _ ((HX1.out.s2_0 (.slice A1 row.length c1)).s2_1 (.int .i64 (f.toNat : Int))).box.up) hn).mono ?_); rw [show ((p1 : Int) + 2) = ((p1 + 2 : Nat) : Int) from by omega, H2.out]; rintro e x2 hp; obtain ⟨A2, c2, rfl, _, hO2, hb2⟩ := hp.at_ (n := qual.length) rfl rfl rfl; have HX2 := Lib.hid (((HX1.out.s2_0 (.slice A1 row.length c1)).s2_1 (.int .i64 (f.toNat : Int))).fresh hb2 hO2); clear hb2 hp hO2 tO2 g1 g2; clear z0 y0 n0 z1 y1 n1 z2 y2 n2 z3 y3 n3 z4 y4 n4 z5 y5 n5 z6 y6 n6 fz fy; have z0 := HX2.out.box.c0 (i := 0) (v := .slice none 0 0) rfl rfl; have n0 := HX2.out.box.c1 (i := 0) (v := .slice none 0 0) rfl rfl; have y0 := HX2.out.box.c2 (i := 0) (v := .slice A1 row.length c1) rfl rfl; have z1 := HX2.out.box.c0 (i := 1) (v := .int .i64 0) rfl rfl; have n1 := HX2.out.box.c1 (i := 1) (v := .int .i64 0) rfl rfl; have y1 := HX2.out.box.c2 (i := 1) (v := .int .i64 (f.toNat : Int)) rfl rfl; have z2 := HX2.out.box.c0 (i := 2) (v := .slice none 0 0) rfl rfl; have n2 := HX2.out.box.c1 (i := 2) (v := .slice none 0 0) rfl rfl; have y2 := HX2.out.box.c2 (i := 2) (v := .slice none 0 0) rfl rfl; have z3 := HX2.out.box.c0 (i := 3) (v := .int .i64 0) rfl rfl; have n3 := HX2.out.box.c1 (i := 3) (v := .int .i64 0) rfl rfl; have y3 := HX2.out.box.c2 (i := 3) (v := .int .i64 0) rfl rfl; have z4 := HX2.out.box.c0 (i := 4) (v := .int .i64 0) rfl rfl; have n4 := HX2.out.box.c1 (i := 4) (v := .int .i64 0) rfl rfl; have y4 := HX2.out.box.c2 (i := 4) (v := .int .i64 0) rfl rfl; have z5 := HX2.out.box.c0 (i := 5) (v := .int .i64 0) rfl rfl; have n5 := HX2.out.box.c1 (i := 5) (v := .int .i64 0) rfl rfl; have y5 := HX2.out.box.c2 (i := 5) (v := .int .i64 0) rfl rfl; have z6 := HX2.out.box.c0 (i := 6) (v := .slice none 0 0) rfl rfl; have n6 := HX2.out.box.c1 (i := 6) (v := .slice none 0 0) rfl rfl; have y6 := HX2.out.box.c2 (i := 6) (v := .slice none 0 0) rfl rfl; have fz := HX2.out.box.f0 rfl; have fy := HX2.out.box.f2 rfl)
    | (go_at_call 86; have _t := tF1; go_must (refine (rRfl_any b (some ⟨bb, oo, none⟩) n c _ _ (HS.out _ (HX2.out.s2_2 (.slice A2 qual.length c2)).box.up) hn).mono ?_); rw [show ((p2 : Int) + 1) = ((p2 + 1 : Nat) : Int) from by omega, H3.out]; rintro e x3 ⟨rfl, rfl⟩; clear tF1)
    | (go_at_call 86; go_must (refine (rRfl_any b (some ⟨bb, oo, none⟩) n c _ _ (HS.out _ ((HX2.out.s2_2 (.slice A2 qual.length c2)).s2_3 (.int .i64 (t : Int))).box.up) hn).mono ?_); rw [H4.out]; rintro e x4 ⟨rfl, rfl⟩))
  (try simp only [Exit.inBlock, Exit.then])
  have HR := Lib.hid (((((HX2.out.s2_2 (.slice A2 qual.length c2)).s2_3 (.int .i64 (t : Int))).s2_4 (.int .i64 (s : Int))).fill7 rfl (.slice none 0 0) (.int .i64 0) (.slice none 0 0) (.int .i64 0) (.int .i64 0) (.int .i64 0) (.slice none 0 0)))
  refine bodyPost_ret (results_box1 rfl _ _ w.heap.size _ rfl (HR.out.box.cells0 rfl) (by kernel_rfl) (by kernel_rfl)) rfl ?_
  exact ent_none (mk := fun v => .tuple #[v, .int .i64 27]) HR.out.box.up
set_option maxRecDepth 100000 in
set_option maxHeartbeats 2000000 in
theorem rp_P_f4b (b : List UInt8) (A : Option Addr) (n c : Nat) (w : World) (row : List UInt8) (p1 : Nat) (f g : UInt8) (qual : List UInt8) (p2 : Nat) (t p3 : Nat) (s p4 : Nat) (hs : Sl w A n c b) (hn : n ≤ 140737488355000) (h0 : readO b 0 = (row, p1, 0)) (hlen : p1 + 2 ≤ n) (hf : b[p1]? = some f) (hg : b[p1 + 1]? = some g) (hg0 : g.toNat ≠ 0) (h2 : readO b ((p1 + 2 : Nat) : Int) = (qual, p2, 0)) (hlen2 : p2 < n) (h3 : readFl b (((p2 + 1) : Nat) : Int) = (t, p3, 0)) (h4 : readFl b (p3 : Int) = (s, p4, 0)) (hp4 : p4 ≤ n) (hsh : p4 + 1 ≠ n) :
    Calls Tryz.prog 63 #[.slice A n c] w (EntPost (fun v => .tuple #[v, .int .i64 27]) noEnt w) := by
  have HS : Hid (∀ x, Below w.heap.size w x → Sl x A n c b) := Lib.hid fun x h => hs.later h
  have HX0 := Lib.hid (Bt.of (T := 5) (Bxs.three w 46 #[.slice none 0 0, .int .i64 0, .slice none 0 0, .int .i64 0, .int .i64 0, .int .i64 0, .slice none 0 0] #[.slice none 0 0, .int .i64 0, .slice none 0 0, .int .i64 0, .int .i64 0, .int .i64 0, .slice none 0 0] #[.slice none 0 0, .int .i64 0, .slice none 0 0, .int .i64 0, .int .i64 0, .int .i64 0, .slice none 0 0]))
  have H0 := Lib.hid h0
  obtain ⟨bb, oo, _, rfl, hbb, _, _⟩ := hs.rb.at_ (k := p1) (by omega)
  have HC : Hid (∀ (j : Nat) (u : UInt8) x, b[j]? = some u → Below w.heap.size w x → x.cell? ⟨bb, oo + j, none⟩ = some (.int .u8 (u.toNat : Int))) := Lib.hid fun j u x hu hx => (hs.rb.later hx).cell hu
  have hbb0 : ¬ bb = w.heap.size := by omega
  have hbb1 : ¬ bb = w.heap.size + 1 := by omega
  have hbb2 : ¬ bb = w.heap.size + 1 + 1 := by omega
  have HF := Lib.hid hf
  have HG := Lib.hid hg
  have hgd : ((g.toNat : Int) != 0) = true := by rw [bne_iff_ne]; omega
  have H2 := Lib.hid h2
  have H3 := Lib.hid h3
  have H4 := Lib.hid h4
  have q1 : (p1 : Int) < (n : Int) := by omega
  have q2 : (p1 : Int) + 1 < (n : Int) := by omega
  have q3 : decide ((n : Int) < (p1 : Int) + 2) = false := decide_eq_false (by omega)
  have q4 : (p2 : Int) < (n : Int) := by omega
  have q8 : wrap64 ((f.toNat : Nat) : Int) = (f.toNat : Int) := wrap64_id (by omega) (by have := f.toNat_lt; omega)
  have q9 : IntKind.i64.wrap ((f.toNat : Nat) : Int) = (f.toNat : Int) := i64_sum (by omega) (by have := f.toNat_lt; omega)
  have q10 : ((p4 : Int) + 1 != (n : Int)) = true := by rw [bne_iff_ne]; omega
  have tO1 : True := trivial
  have tO2 : True := trivial
  have tF1 : True := trivial
  clear hs h0 hf hg hg0 h2 h3 h4
  go_enter Tryz.func63, Tryz.ntmps63
  go_wp2_with (first
    | (go_at_call 85; have _t := tO1; go_must (refine (rRo_any b (some ⟨bb, oo, none⟩) n c 0 _ (HS.out _ HX0.out.box.up) hn).mono ?_); rw [H0.out]; rintro e x1 hp; obtain ⟨A1, c1, rfl, _, hO1, hb1⟩ := hp.at_ (n := row.length) rfl rfl rfl; have HX1 := Lib.hid (HX0.out.fresh hb1 hO1); clear hb1 hp hO1 tO1; have z0 := HX1.out.box.c0 (i := 0) (v := .slice none 0 0) rfl rfl; have n0 := HX1.out.box.c1 (i := 0) (v := .slice none 0 0) rfl rfl; have y0 := HX1.out.box.c2 (i := 0) (v := .slice none 0 0) rfl rfl; have z1 := HX1.out.box.c0 (i := 1) (v := .int .i64 0) rfl rfl; have n1 := HX1.out.box.c1 (i := 1) (v := .int .i64 0) rfl rfl; have y1 := HX1.out.box.c2 (i := 1) (v := .int .i64 0) rfl rfl; have z2 := HX1.out.box.c0 (i := 2) (v := .slice none 0 0) rfl rfl; have n2 := HX1.out.box.c1 (i := 2) (v := .slice none 0 0) rfl rfl; have y2 := HX1.out.box.c2 (i := 2) (v := .slice none 0 0) rfl rfl; have z3 := HX1.out.box.c0 (i := 3) (v := .int .i64 0) rfl rfl; have n3 := HX1.out.box.c1 (i := 3) (v := .int .i64 0) rfl rfl; have y3 := HX1.out.box.c2 (i := 3) (v := .int .i64 0) rfl rfl; have z4 := HX1.out.box.c0 (i := 4) (v := .int .i64 0) rfl rfl; have n4 := HX1.out.box.c1 (i := 4) (v := .int .i64 0) rfl rfl; have y4 := HX1.out.box.c2 (i := 4) (v := .int .i64 0) rfl rfl; have z5 := HX1.out.box.c0 (i := 5) (v := .int .i64 0) rfl rfl; have n5 := HX1.out.box.c1 (i := 5) (v := .int .i64 0) rfl rfl; have y5 := HX1.out.box.c2 (i := 5) (v := .int .i64 0) rfl rfl; have z6 := HX1.out.box.c0 (i := 6) (v := .slice none 0 0) rfl rfl; have n6 := HX1.out.box.c1 (i := 6) (v := .slice none 0 0) rfl rfl; have y6 := HX1.out.box.c2 (i := 6) (v := .slice none 0 0) rfl rfl; have fz := HX1.out.box.f0 rfl; have fy := HX1.out.box.f2 rfl; have g1 := HC.out p1 f _ HF.out HX1.out.box.up; have g2 := HC.out (p1 + 1) g _ HG.out HX1.out.box.up)
    | (go_at_call 85; have _t := tO2; go_must (refine (rRo_any b (some ⟨bb, oo, none⟩) n c _ _ (HS.out _ ((HX1.out.s2_0 (.slice A1 row.length c1)).s2_1 (.int .i64 (f.toNat : Int))).box.up) hn).mono ?_); rw [show ((p1 : Int) + 2) = ((p1 + 2 : Nat) : Int) from by omega, H2.out]; rintro e x2 hp; obtain ⟨A2, c2, rfl, _, hO2, hb2⟩ := hp.at_ (n := qual.length) rfl rfl rfl; have HX2 := Lib.hid (((HX1.out.s2_0 (.slice A1 row.length c1)).s2_1 (.int .i64 (f.toNat : Int))).fresh hb2 hO2); clear hb2 hp hO2 tO2 g1 g2; clear z0 y0 n0 z1 y1 n1 z2 y2 n2 z3 y3 n3 z4 y4 n4 z5 y5 n5 z6 y6 n6 fz fy; have z0 := HX2.out.box.c0 (i := 0) (v := .slice none 0 0) rfl rfl; have n0 := HX2.out.box.c1 (i := 0) (v := .slice none 0 0) rfl rfl; have y0 := HX2.out.box.c2 (i := 0) (v := .slice A1 row.length c1) rfl rfl; have z1 := HX2.out.box.c0 (i := 1) (v := .int .i64 0) rfl rfl; have n1 := HX2.out.box.c1 (i := 1) (v := .int .i64 0) rfl rfl; have y1 := HX2.out.box.c2 (i := 1) (v := .int .i64 (f.toNat : Int)) rfl rfl; have z2 := HX2.out.box.c0 (i := 2) (v := .slice none 0 0) rfl rfl; have n2 := HX2.out.box.c1 (i := 2) (v := .slice none 0 0) rfl rfl; have y2 := HX2.out.box.c2 (i := 2) (v := .slice none 0 0) rfl rfl; have z3 := HX2.out.box.c0 (i := 3) (v := .int .i64 0) rfl rfl; have n3 := HX2.out.box.c1 (i := 3) (v := .int .i64 0) rfl rfl; have y3 := HX2.out.box.c2 (i := 3) (v := .int .i64 0) rfl rfl; have z4 := HX2.out.box.c0 (i := 4) (v := .int .i64 0) rfl rfl; have n4 := HX2.out.box.c1 (i := 4) (v := .int .i64 0) rfl rfl; have y4 := HX2.out.box.c2 (i := 4) (v := .int .i64 0) rfl rfl; have z5 := HX2.out.box.c0 (i := 5) (v := .int .i64 0) rfl rfl; have n5 := HX2.out.box.c1 (i := 5) (v := .int .i64 0) rfl rfl; have y5 := HX2.out.box.c2 (i := 5) (v := .int .i64 0) rfl rfl; have z6 := HX2.out.box.c0 (i := 6) (v := .slice none 0 0) rfl rfl; have n6 := HX2.out.box.c1 (i := 6) (v := .slice none 0 0) rfl rfl; have y6 := HX2.out.box.c2 (i := 6) (v := .slice none 0 0) rfl rfl; have fz := HX2.out.box.f0 rfl; have fy := HX2.out.box.f2 rfl)
    | (go_at_call 86; have _t := tF1; go_must (refine (rRfl_any b (some ⟨bb, oo, none⟩) n c _ _ (HS.out _ (HX2.out.s2_2 (.slice A2 qual.length c2)).box.up) hn).mono ?_); rw [show ((p2 : Int) + 1) = ((p2 + 1 : Nat) : Int) from by omega, H3.out]; rintro e x3 ⟨rfl, rfl⟩; clear tF1)
    | (go_at_call 86; go_must (refine (rRfl_any b (some ⟨bb, oo, none⟩) n c _ _ (HS.out _ ((HX2.out.s2_2 (.slice A2 qual.length c2)).s2_3 (.int .i64 (t : Int))).box.up) hn).mono ?_); rw [H4.out]; rintro e x4 ⟨rfl, rfl⟩))
  (try simp only [Exit.inBlock, Exit.then])
  have HR := Lib.hid (((((HX2.out.s2_2 (.slice A2 qual.length c2)).s2_3 (.int .i64 (t : Int))).s2_4 (.int .i64 (s : Int))).fill7 rfl (.slice none 0 0) (.int .i64 0) (.slice none 0 0) (.int .i64 0) (.int .i64 0) (.int .i64 0) (.slice none 0 0)))
  refine bodyPost_ret (results_box1 rfl _ _ w.heap.size _ rfl (HR.out.box.cells0 rfl) (by kernel_rfl) (by kernel_rfl)) rfl ?_
  exact ent_none (mk := fun v => .tuple #[v, .int .i64 27]) HR.out.box.up
set_option maxRecDepth 100000 in
set_option maxHeartbeats 2000000 in
theorem rp_P_okA (b : List UInt8) (A : Option Addr) (n c : Nat) (w : World) (row : List UInt8) (p1 : Nat) (f g : UInt8) (qual : List UInt8) (p2 : Nat) (t p3 : Nat) (s p4 : Nat) (k : UInt8) (K : List UInt8) (z : Int) (hs : Sl w A n c b) (hn : n ≤ 140737488355000) (h0 : readO b 0 = (row, p1, 0)) (hlen : p1 + 2 ≤ n) (hf : b[p1]? = some f) (hg : b[p1 + 1]? = some g) (hg0 : g.toNat ≠ 0) (h2 : readO b ((p1 + 2 : Nat) : Int) = (qual, p2, 0)) (hlen2 : p2 < n) (h3 : readFl b (((p2 + 1) : Nat) : Int) = (t, p3, 0)) (h4 : readFl b (p3 : Int) = (s, p4, 0)) (hlen4 : p4 + 1 = n) (hk : b[p4]? = some k) (hz : z ≠ 0) (hke : KeyE ⟨row, (f.toNat : Int), qual, (t : Int), (s : Int), (k.toNat : Int), []⟩ = (K, z)) :
    Calls Tryz.prog 63 #[.slice A n c] w (EntPost (fun v => .tuple #[v, .int .i64 27]) noEnt w) := by
  have HS : Hid (∀ x, Below w.heap.size w x → Sl x A n c b) := Lib.hid fun x h => hs.later h
  have HX0 := Lib.hid (Bt.of (T := 5) (Bxs.three w 46 #[.slice none 0 0, .int .i64 0, .slice none 0 0, .int .i64 0, .int .i64 0, .int .i64 0, .slice none 0 0] #[.slice none 0 0, .int .i64 0, .slice none 0 0, .int .i64 0, .int .i64 0, .int .i64 0, .slice none 0 0] #[.slice none 0 0, .int .i64 0, .slice none 0 0, .int .i64 0, .int .i64 0, .int .i64 0, .slice none 0 0]))
  have H0 := Lib.hid h0
  obtain ⟨bb, oo, _, rfl, hbb, _, _⟩ := hs.rb.at_ (k := p1) (by omega)
  have HC : Hid (∀ (j : Nat) (u : UInt8) x, b[j]? = some u → Below w.heap.size w x → x.cell? ⟨bb, oo + j, none⟩ = some (.int .u8 (u.toNat : Int))) := Lib.hid fun j u x hu hx => (hs.rb.later hx).cell hu
  have hbb0 : ¬ bb = w.heap.size := by omega
  have hbb1 : ¬ bb = w.heap.size + 1 := by omega
  have hbb2 : ¬ bb = w.heap.size + 1 + 1 := by omega
  have HF := Lib.hid hf
  have HG := Lib.hid hg
  have hgd : ((g.toNat : Int) != 0) = true := by rw [bne_iff_ne]; omega
  have H2 := Lib.hid h2
  have H3 := Lib.hid h3
  have H4 := Lib.hid h4
  have HK := Lib.hid hk
  have HKE := Lib.hid hke
  have hd : (z != 0) = true := by rw [bne_iff_ne]; exact hz
  have q1 : (p1 : Int) < (n : Int) := by omega
  have q2 : (p1 : Int) + 1 < (n : Int) := by omega
  have q3 : decide ((n : Int) < (p1 : Int) + 2) = false := decide_eq_false (by omega)
  have q4 : (p2 : Int) < (n : Int) := by omega
  have q8 : wrap64 ((f.toNat : Nat) : Int) = (f.toNat : Int) := wrap64_id (by omega) (by have := f.toNat_lt; omega)
  have q9 : IntKind.i64.wrap ((f.toNat : Nat) : Int) = (f.toNat : Int) := i64_sum (by omega) (by have := f.toNat_lt; omega)
  have q10 : ((p4 : Int) + 1 != (n : Int)) = false := by rw [bne_eq_false_iff_eq]; omega
  have q5 : (p4 : Int) < (n : Int) := by omega
  have q6 : wrap64 ((k.toNat : Nat) : Int) = (k.toNat : Int) := wrap64_id (by omega) (by have := k.toNat_lt; omega)
  have q7 : IntKind.i64.wrap ((k.toNat : Nat) : Int) = (k.toNat : Int) := i64_sum (by omega) (by have := k.toNat_lt; omega)
  have tO1 : True := trivial
  have tO2 : True := trivial
  have tF1 : True := trivial
  clear hs h0 hf hg hg0 h2 h3 h4 hk hke hz
  go_enter Tryz.func63, Tryz.ntmps63
  go_wp2_with (first
    | (go_at_call 85; have _t := tO1; go_must (refine (rRo_any b (some ⟨bb, oo, none⟩) n c 0 _ (HS.out _ HX0.out.box.up) hn).mono ?_); rw [H0.out]; rintro e x1 hp; obtain ⟨A1, c1, rfl, _, hO1, hb1⟩ := hp.at_ (n := row.length) rfl rfl rfl; have HX1 := Lib.hid (HX0.out.fresh hb1 hO1); clear hb1 hp hO1 tO1; have z0 := HX1.out.box.c0 (i := 0) (v := .slice none 0 0) rfl rfl; have n0 := HX1.out.box.c1 (i := 0) (v := .slice none 0 0) rfl rfl; have y0 := HX1.out.box.c2 (i := 0) (v := .slice none 0 0) rfl rfl; have z1 := HX1.out.box.c0 (i := 1) (v := .int .i64 0) rfl rfl; have n1 := HX1.out.box.c1 (i := 1) (v := .int .i64 0) rfl rfl; have y1 := HX1.out.box.c2 (i := 1) (v := .int .i64 0) rfl rfl; have z2 := HX1.out.box.c0 (i := 2) (v := .slice none 0 0) rfl rfl; have n2 := HX1.out.box.c1 (i := 2) (v := .slice none 0 0) rfl rfl; have y2 := HX1.out.box.c2 (i := 2) (v := .slice none 0 0) rfl rfl; have z3 := HX1.out.box.c0 (i := 3) (v := .int .i64 0) rfl rfl; have n3 := HX1.out.box.c1 (i := 3) (v := .int .i64 0) rfl rfl; have y3 := HX1.out.box.c2 (i := 3) (v := .int .i64 0) rfl rfl; have z4 := HX1.out.box.c0 (i := 4) (v := .int .i64 0) rfl rfl; have n4 := HX1.out.box.c1 (i := 4) (v := .int .i64 0) rfl rfl; have y4 := HX1.out.box.c2 (i := 4) (v := .int .i64 0) rfl rfl; have z5 := HX1.out.box.c0 (i := 5) (v := .int .i64 0) rfl rfl; have n5 := HX1.out.box.c1 (i := 5) (v := .int .i64 0) rfl rfl; have y5 := HX1.out.box.c2 (i := 5) (v := .int .i64 0) rfl rfl; have z6 := HX1.out.box.c0 (i := 6) (v := .slice none 0 0) rfl rfl; have n6 := HX1.out.box.c1 (i := 6) (v := .slice none 0 0) rfl rfl; have y6 := HX1.out.box.c2 (i := 6) (v := .slice none 0 0) rfl rfl; have fz := HX1.out.box.f0 rfl; have fy := HX1.out.box.f2 rfl; have g1 := HC.out p1 f _ HF.out HX1.out.box.up; have g2 := HC.out (p1 + 1) g _ HG.out HX1.out.box.up; have g3 := HC.out p4 k _ HK.out HX1.out.box.up)
    | (go_at_call 85; have _t := tO2; go_must (refine (rRo_any b (some ⟨bb, oo, none⟩) n c _ _ (HS.out _ ((HX1.out.s2_0 (.slice A1 row.length c1)).s2_1 (.int .i64 (f.toNat : Int))).box.up) hn).mono ?_); rw [show ((p1 : Int) + 2) = ((p1 + 2 : Nat) : Int) from by omega, H2.out]; rintro e x2 hp; obtain ⟨A2, c2, rfl, _, hO2, hb2⟩ := hp.at_ (n := qual.length) rfl rfl rfl; have HX2 := Lib.hid (((HX1.out.s2_0 (.slice A1 row.length c1)).s2_1 (.int .i64 (f.toNat : Int))).fresh hb2 hO2); clear hb2 hp hO2 tO2 g1 g2 g3; clear z0 y0 n0 z1 y1 n1 z2 y2 n2 z3 y3 n3 z4 y4 n4 z5 y5 n5 z6 y6 n6 fz fy; have z0 := HX2.out.box.c0 (i := 0) (v := .slice none 0 0) rfl rfl; have n0 := HX2.out.box.c1 (i := 0) (v := .slice none 0 0) rfl rfl; have y0 := HX2.out.box.c2 (i := 0) (v := .slice A1 row.length c1) rfl rfl; have z1 := HX2.out.box.c0 (i := 1) (v := .int .i64 0) rfl rfl; have n1 := HX2.out.box.c1 (i := 1) (v := .int .i64 0) rfl rfl; have y1 := HX2.out.box.c2 (i := 1) (v := .int .i64 (f.toNat : Int)) rfl rfl; have z2 := HX2.out.box.c0 (i := 2) (v := .slice none 0 0) rfl rfl; have n2 := HX2.out.box.c1 (i := 2) (v := .slice none 0 0) rfl rfl; have y2 := HX2.out.box.c2 (i := 2) (v := .slice none 0 0) rfl rfl; have z3 := HX2.out.box.c0 (i := 3) (v := .int .i64 0) rfl rfl; have n3 := HX2.out.box.c1 (i := 3) (v := .int .i64 0) rfl rfl; have y3 := HX2.out.box.c2 (i := 3) (v := .int .i64 0) rfl rfl; have z4 := HX2.out.box.c0 (i := 4) (v := .int .i64 0) rfl rfl; have n4 := HX2.out.box.c1 (i := 4) (v := .int .i64 0) rfl rfl; have y4 := HX2.out.box.c2 (i := 4) (v := .int .i64 0) rfl rfl; have z5 := HX2.out.box.c0 (i := 5) (v := .int .i64 0) rfl rfl; have n5 := HX2.out.box.c1 (i := 5) (v := .int .i64 0) rfl rfl; have y5 := HX2.out.box.c2 (i := 5) (v := .int .i64 0) rfl rfl; have z6 := HX2.out.box.c0 (i := 6) (v := .slice none 0 0) rfl rfl; have n6 := HX2.out.box.c1 (i := 6) (v := .slice none 0 0) rfl rfl; have y6 := HX2.out.box.c2 (i := 6) (v := .slice none 0 0) rfl rfl; have fz := HX2.out.box.f0 rfl; have fy := HX2.out.box.f2 rfl; have g3 := HC.out p4 k _ HK.out HX2.out.box.up)
    | (go_at_call 86; have _t := tF1; go_must (refine (rRfl_any b (some ⟨bb, oo, none⟩) n c _ _ (HS.out _ (HX2.out.s2_2 (.slice A2 qual.length c2)).box.up) hn).mono ?_); rw [show ((p2 : Int) + 1) = ((p2 + 1 : Nat) : Int) from by omega, H3.out]; rintro e x3 ⟨rfl, rfl⟩; clear tF1)
    | (go_at_call 86; go_must (refine (rRfl_any b (some ⟨bb, oo, none⟩) n c _ _ (HS.out _ ((HX2.out.s2_2 (.slice A2 qual.length c2)).s2_3 (.int .i64 (t : Int))).box.up) hn).mono ?_); rw [H4.out]; rintro e x4 ⟨rfl, rfl⟩)
    | (go_at_call 20; go_must (refine (rKey_any ⟨row, (f.toNat : Int), qual, (t : Int), (s : Int), (k.toNat : Int), []⟩ A1 row.length c1 A2 qual.length c2 none 0 0 _ ⟨((((HX2.out.s2_2 (.slice A2 qual.length c2)).s2_3 (.int .i64 (t : Int))).s2_4 (.int .i64 (s : Int))).s2_5 (.int .i64 (k.toNat : Int))).rows.sl (i := 0) rfl, (((((HX2.out.s2_2 (.slice A2 qual.length c2)).s2_3 (.int .i64 (t : Int))).s2_4 (.int .i64 (s : Int))).s2_5 (.int .i64 (k.toNat : Int))).rows.sl (i := 1) rfl), Sl.none _⟩).mono ?_); rw [HKE.out]; rintro e x5 hp; obtain ⟨A5, c5, rfl, hS5, hO5, hb5⟩ := hp.at_ (n := K.length) rfl rfl; have HX5 := Lib.hid (((((HX2.out.s2_2 (.slice A2 qual.length c2)).s2_3 (.int .i64 (t : Int))).s2_4 (.int .i64 (s : Int))).s2_5 (.int .i64 (k.toNat : Int))).fresh hb5 hO5); have HS5 := Lib.hid hS5; clear hb5 hp hO5 hS5 g3; clear z0 y0 n0 z1 y1 n1 z2 y2 n2 z3 y3 n3 z4 y4 n4 z5 y5 n5 z6 y6 n6 fz fy; have z0 := HX5.out.box.c0 (i := 0) (v := .slice none 0 0) rfl rfl; have n0 := HX5.out.box.c1 (i := 0) (v := .slice none 0 0) rfl rfl; have y0 := HX5.out.box.c2 (i := 0) (v := .slice A1 row.length c1) rfl rfl; have z1 := HX5.out.box.c0 (i := 1) (v := .int .i64 0) rfl rfl; have n1 := HX5.out.box.c1 (i := 1) (v := .int .i64 0) rfl rfl; have y1 := HX5.out.box.c2 (i := 1) (v := .int .i64 (f.toNat : Int)) rfl rfl; have z2 := HX5.out.box.c0 (i := 2) (v := .slice none 0 0) rfl rfl; have n2 := HX5.out.box.c1 (i := 2) (v := .slice none 0 0) rfl rfl; have y2 := HX5.out.box.c2 (i := 2) (v := .slice A2 qual.length c2) rfl rfl; have z3 := HX5.out.box.c0 (i := 3) (v := .int .i64 0) rfl rfl; have n3 := HX5.out.box.c1 (i := 3) (v := .int .i64 0) rfl rfl; have y3 := HX5.out.box.c2 (i := 3) (v := .int .i64 (t : Int)) rfl rfl; have z4 := HX5.out.box.c0 (i := 4) (v := .int .i64 0) rfl rfl; have n4 := HX5.out.box.c1 (i := 4) (v := .int .i64 0) rfl rfl; have y4 := HX5.out.box.c2 (i := 4) (v := .int .i64 (s : Int)) rfl rfl; have z5 := HX5.out.box.c0 (i := 5) (v := .int .i64 0) rfl rfl; have n5 := HX5.out.box.c1 (i := 5) (v := .int .i64 0) rfl rfl; have y5 := HX5.out.box.c2 (i := 5) (v := .int .i64 (k.toNat : Int)) rfl rfl; have z6 := HX5.out.box.c0 (i := 6) (v := .slice none 0 0) rfl rfl; have n6 := HX5.out.box.c1 (i := 6) (v := .slice none 0 0) rfl rfl; have y6 := HX5.out.box.c2 (i := 6) (v := .slice none 0 0) rfl rfl; have fz := HX5.out.box.f0 rfl; have fy := HX5.out.box.f2 rfl))
  (try simp only [Exit.inBlock, Exit.then])
  have HR := Lib.hid ((HX5.out.fill7 rfl (.slice none 0 0) (.int .i64 0) (.slice none 0 0) (.int .i64 0) (.int .i64 0) (.int .i64 0) (.slice none 0 0)))
  refine bodyPost_ret (results_box1 rfl _ _ w.heap.size _ rfl (HR.out.box.cells0 rfl) (by kernel_rfl) (by kernel_rfl)) rfl ?_
  exact ent_none (mk := fun v => .tuple #[v, .int .i64 27]) HR.out.box.up
set_option maxRecDepth 100000 in
set_option maxHeartbeats 2000000 in
theorem rp_P_okB (b : List UInt8) (A : Option Addr) (n c : Nat) (w : World) (row : List UInt8) (p1 : Nat) (f g : UInt8) (qual : List UInt8) (p2 : Nat) (t p3 : Nat) (s p4 : Nat) (k : UInt8) (K : List UInt8) (hs : Sl w A n c b) (hn : n ≤ 140737488355000) (h0 : readO b 0 = (row, p1, 0)) (hlen : p1 + 2 ≤ n) (hf : b[p1]? = some f) (hg : b[p1 + 1]? = some g) (hg0 : g.toNat ≠ 0) (h2 : readO b ((p1 + 2 : Nat) : Int) = (qual, p2, 0)) (hlen2 : p2 < n) (h3 : readFl b (((p2 + 1) : Nat) : Int) = (t, p3, 0)) (h4 : readFl b (p3 : Int) = (s, p4, 0)) (hlen4 : p4 + 1 = n) (hk : b[p4]? = some k) (hke : KeyE ⟨row, (f.toNat : Int), qual, (t : Int), (s : Int), (k.toNat : Int), []⟩ = (K, 0)) (hkb : (K == b) = false) :
    Calls Tryz.prog 63 #[.slice A n c] w (EntPost (fun v => .tuple #[v, .int .i64 27]) noEnt w) := by
  have HS : Hid (∀ x, Below w.heap.size w x → Sl x A n c b) := Lib.hid fun x h => hs.later h
  have HX0 := Lib.hid (Bt.of (T := 5) (Bxs.three w 46 #[.slice none 0 0, .int .i64 0, .slice none 0 0, .int .i64 0, .int .i64 0, .int .i64 0, .slice none 0 0] #[.slice none 0 0, .int .i64 0, .slice none 0 0, .int .i64 0, .int .i64 0, .int .i64 0, .slice none 0 0] #[.slice none 0 0, .int .i64 0, .slice none 0 0, .int .i64 0, .int .i64 0, .int .i64 0, .slice none 0 0]))
  have H0 := Lib.hid h0
  obtain ⟨bb, oo, _, rfl, hbb, _, _⟩ := hs.rb.at_ (k := p1) (by omega)
  have HC : Hid (∀ (j : Nat) (u : UInt8) x, b[j]? = some u → Below w.heap.size w x → x.cell? ⟨bb, oo + j, none⟩ = some (.int .u8 (u.toNat : Int))) := Lib.hid fun j u x hu hx => (hs.rb.later hx).cell hu
  have hbb0 : ¬ bb = w.heap.size := by omega
  have hbb1 : ¬ bb = w.heap.size + 1 := by omega
  have hbb2 : ¬ bb = w.heap.size + 1 + 1 := by omega
  have HF := Lib.hid hf
  have HG := Lib.hid hg
  have hgd : ((g.toNat : Int) != 0) = true := by rw [bne_iff_ne]; omega
  have H2 := Lib.hid h2
  have H3 := Lib.hid h3
  have H4 := Lib.hid h4
  have HK := Lib.hid hk
  have HKE := Lib.hid hke
  have HKB := Lib.hid hkb
  have q1 : (p1 : Int) < (n : Int) := by omega
  have q2 : (p1 : Int) + 1 < (n : Int) := by omega
  have q3 : decide ((n : Int) < (p1 : Int) + 2) = false := decide_eq_false (by omega)
  have q4 : (p2 : Int) < (n : Int) := by omega
  have q8 : wrap64 ((f.toNat : Nat) : Int) = (f.toNat : Int) := wrap64_id (by omega) (by have := f.toNat_lt; omega)
  have q9 : IntKind.i64.wrap ((f.toNat : Nat) : Int) = (f.toNat : Int) := i64_sum (by omega) (by have := f.toNat_lt; omega)
  have q10 : ((p4 : Int) + 1 != (n : Int)) = false := by rw [bne_eq_false_iff_eq]; omega
  have q5 : (p4 : Int) < (n : Int) := by omega
  have q6 : wrap64 ((k.toNat : Nat) : Int) = (k.toNat : Int) := wrap64_id (by omega) (by have := k.toNat_lt; omega)
  have q7 : IntKind.i64.wrap ((k.toNat : Nat) : Int) = (k.toNat : Int) := i64_sum (by omega) (by have := k.toNat_lt; omega)
  have tO1 : True := trivial
  have tO2 : True := trivial
  have tF1 : True := trivial
  clear hs h0 hf hg hg0 h2 h3 h4 hk hke hkb
  go_enter Tryz.func63, Tryz.ntmps63
  go_wp2_with (first
    | (go_at_call 85; have _t := tO1; go_must (refine (rRo_any b (some ⟨bb, oo, none⟩) n c 0 _ (HS.out _ HX0.out.box.up) hn).mono ?_); rw [H0.out]; rintro e x1 hp; obtain ⟨A1, c1, rfl, _, hO1, hb1⟩ := hp.at_ (n := row.length) rfl rfl rfl; have HX1 := Lib.hid (HX0.out.fresh hb1 hO1); clear hb1 hp hO1 tO1; have z0 := HX1.out.box.c0 (i := 0) (v := .slice none 0 0) rfl rfl; have n0 := HX1.out.box.c1 (i := 0) (v := .slice none 0 0) rfl rfl; have y0 := HX1.out.box.c2 (i := 0) (v := .slice none 0 0) rfl rfl; have z1 := HX1.out.box.c0 (i := 1) (v := .int .i64 0) rfl rfl; have n1 := HX1.out.box.c1 (i := 1) (v := .int .i64 0) rfl rfl; have y1 := HX1.out.box.c2 (i := 1) (v := .int .i64 0) rfl rfl; have z2 := HX1.out.box.c0 (i := 2) (v := .slice none 0 0) rfl rfl; have n2 := HX1.out.box.c1 (i := 2) (v := .slice none 0 0) rfl rfl; have y2 := HX1.out.box.c2 (i := 2) (v := .slice none 0 0) rfl rfl; have z3 := HX1.out.box.c0 (i := 3) (v := .int .i64 0) rfl rfl; have n3 := HX1.out.box.c1 (i := 3) (v := .int .i64 0) rfl rfl; have y3 := HX1.out.box.c2 (i := 3) (v := .int .i64 0) rfl rfl; have z4 := HX1.out.box.c0 (i := 4) (v := .int .i64 0) rfl rfl; have n4 := HX1.out.box.c1 (i := 4) (v := .int .i64 0) rfl rfl; have y4 := HX1.out.box.c2 (i := 4) (v := .int .i64 0) rfl rfl; have z5 := HX1.out.box.c0 (i := 5) (v := .int .i64 0) rfl rfl; have n5 := HX1.out.box.c1 (i := 5) (v := .int .i64 0) rfl rfl; have y5 := HX1.out.box.c2 (i := 5) (v := .int .i64 0) rfl rfl; have z6 := HX1.out.box.c0 (i := 6) (v := .slice none 0 0) rfl rfl; have n6 := HX1.out.box.c1 (i := 6) (v := .slice none 0 0) rfl rfl; have y6 := HX1.out.box.c2 (i := 6) (v := .slice none 0 0) rfl rfl; have fz := HX1.out.box.f0 rfl; have fy := HX1.out.box.f2 rfl; have g1 := HC.out p1 f _ HF.out HX1.out.box.up; have g2 := HC.out (p1 + 1) g _ HG.out HX1.out.box.up; have g3 := HC.out p4 k _ HK.out HX1.out.box.up)
    | (go_at_call 85; have _t := tO2; go_must (refine (rRo_any b (some ⟨bb, oo, none⟩) n c _ _ (HS.out _ ((HX1.out.s2_0 (.slice A1 row.length c1)).s2_1 (.int .i64 (f.toNat : Int))).box.up) hn).mono ?_); rw [show ((p1 : Int) + 2) = ((p1 + 2 : Nat) : Int) from by omega, H2.out]; rintro e x2 hp; obtain ⟨A2, c2, rfl, _, hO2, hb2⟩ := hp.at_ (n := qual.length) rfl rfl rfl; have HX2 := Lib.hid (((HX1.out.s2_0 (.slice A1 row.length c1)).s2_1 (.int .i64 (f.toNat : Int))).fresh hb2 hO2); clear hb2 hp hO2 tO2 g1 g2 g3; clear z0 y0 n0 z1 y1 n1 z2 y2 n2 z3 y3 n3 z4 y4 n4 z5 y5 n5 z6 y6 n6 fz fy; have z0 := HX2.out.box.c0 (i := 0) (v := .slice none 0 0) rfl rfl; have n0 := HX2.out.box.c1 (i := 0) (v := .slice none 0 0) rfl rfl; have y0 := HX2.out.box.c2 (i := 0) (v := .slice A1 row.length c1) rfl rfl; have z1 := HX2.out.box.c0 (i := 1) (v := .int .i64 0) rfl rfl; have n1 := HX2.out.box.c1 (i := 1) (v := .int .i64 0) rfl rfl; have y1 := HX2.out.box.c2 (i := 1) (v := .int .i64 (f.toNat : Int)) rfl rfl; have z2 := HX2.out.box.c0 (i := 2) (v := .slice none 0 0) rfl rfl; have n2 := HX2.out.box.c1 (i := 2) (v := .slice none 0 0) rfl rfl; have y2 := HX2.out.box.c2 (i := 2) (v := .slice none 0 0) rfl rfl; have z3 := HX2.out.box.c0 (i := 3) (v := .int .i64 0) rfl rfl; have n3 := HX2.out.box.c1 (i := 3) (v := .int .i64 0) rfl rfl; have y3 := HX2.out.box.c2 (i := 3) (v := .int .i64 0) rfl rfl; have z4 := HX2.out.box.c0 (i := 4) (v := .int .i64 0) rfl rfl; have n4 := HX2.out.box.c1 (i := 4) (v := .int .i64 0) rfl rfl; have y4 := HX2.out.box.c2 (i := 4) (v := .int .i64 0) rfl rfl; have z5 := HX2.out.box.c0 (i := 5) (v := .int .i64 0) rfl rfl; have n5 := HX2.out.box.c1 (i := 5) (v := .int .i64 0) rfl rfl; have y5 := HX2.out.box.c2 (i := 5) (v := .int .i64 0) rfl rfl; have z6 := HX2.out.box.c0 (i := 6) (v := .slice none 0 0) rfl rfl; have n6 := HX2.out.box.c1 (i := 6) (v := .slice none 0 0) rfl rfl; have y6 := HX2.out.box.c2 (i := 6) (v := .slice none 0 0) rfl rfl; have fz := HX2.out.box.f0 rfl; have fy := HX2.out.box.f2 rfl; have g3 := HC.out p4 k _ HK.out HX2.out.box.up)
    | (go_at_call 86; have _t := tF1; go_must (refine (rRfl_any b (some ⟨bb, oo, none⟩) n c _ _ (HS.out _ (HX2.out.s2_2 (.slice A2 qual.length c2)).box.up) hn).mono ?_); rw [show ((p2 : Int) + 1) = ((p2 + 1 : Nat) : Int) from by omega, H3.out]; rintro e x3 ⟨rfl, rfl⟩; clear tF1)
    | (go_at_call 86; go_must (refine (rRfl_any b (some ⟨bb, oo, none⟩) n c _ _ (HS.out _ ((HX2.out.s2_2 (.slice A2 qual.length c2)).s2_3 (.int .i64 (t : Int))).box.up) hn).mono ?_); rw [H4.out]; rintro e x4 ⟨rfl, rfl⟩)
    | (go_at_call 20; go_must (refine (rKey_any ⟨row, (f.toNat : Int), qual, (t : Int), (s : Int), (k.toNat : Int), []⟩ A1 row.length c1 A2 qual.length c2 none 0 0 _ ⟨((((HX2.out.s2_2 (.slice A2 qual.length c2)).s2_3 (.int .i64 (t : Int))).s2_4 (.int .i64 (s : Int))).s2_5 (.int .i64 (k.toNat : Int))).rows.sl (i := 0) rfl, (((((HX2.out.s2_2 (.slice A2 qual.length c2)).s2_3 (.int .i64 (t : Int))).s2_4 (.int .i64 (s : Int))).s2_5 (.int .i64 (k.toNat : Int))).rows.sl (i := 1) rfl), Sl.none _⟩).mono ?_); rw [HKE.out]; rintro e x5 hp; obtain ⟨A5, c5, rfl, hS5, hO5, hb5⟩ := hp.at_ (n := K.length) rfl rfl; have HX5 := Lib.hid (((((HX2.out.s2_2 (.slice A2 qual.length c2)).s2_3 (.int .i64 (t : Int))).s2_4 (.int .i64 (s : Int))).s2_5 (.int .i64 (k.toNat : Int))).fresh hb5 hO5); have HS5 := Lib.hid hS5; clear hb5 hp hO5 hS5 g3; clear z0 y0 n0 z1 y1 n1 z2 y2 n2 z3 y3 n3 z4 y4 n4 z5 y5 n5 z6 y6 n6 fz fy; have z0 := HX5.out.box.c0 (i := 0) (v := .slice none 0 0) rfl rfl; have n0 := HX5.out.box.c1 (i := 0) (v := .slice none 0 0) rfl rfl; have y0 := HX5.out.box.c2 (i := 0) (v := .slice A1 row.length c1) rfl rfl; have z1 := HX5.out.box.c0 (i := 1) (v := .int .i64 0) rfl rfl; have n1 := HX5.out.box.c1 (i := 1) (v := .int .i64 0) rfl rfl; have y1 := HX5.out.box.c2 (i := 1) (v := .int .i64 (f.toNat : Int)) rfl rfl; have z2 := HX5.out.box.c0 (i := 2) (v := .slice none 0 0) rfl rfl; have n2 := HX5.out.box.c1 (i := 2) (v := .slice none 0 0) rfl rfl; have y2 := HX5.out.box.c2 (i := 2) (v := .slice A2 qual.length c2) rfl rfl; have z3 := HX5.out.box.c0 (i := 3) (v := .int .i64 0) rfl rfl; have n3 := HX5.out.box.c1 (i := 3) (v := .int .i64 0) rfl rfl; have y3 := HX5.out.box.c2 (i := 3) (v := .int .i64 (t : Int)) rfl rfl; have z4 := HX5.out.box.c0 (i := 4) (v := .int .i64 0) rfl rfl; have n4 := HX5.out.box.c1 (i := 4) (v := .int .i64 0) rfl rfl; have y4 := HX5.out.box.c2 (i := 4) (v := .int .i64 (s : Int)) rfl rfl; have z5 := HX5.out.box.c0 (i := 5) (v := .int .i64 0) rfl rfl; have n5 := HX5.out.box.c1 (i := 5) (v := .int .i64 0) rfl rfl; have y5 := HX5.out.box.c2 (i := 5) (v := .int .i64 (k.toNat : Int)) rfl rfl; have z6 := HX5.out.box.c0 (i := 6) (v := .slice none 0 0) rfl rfl; have n6 := HX5.out.box.c1 (i := 6) (v := .slice none 0 0) rfl rfl; have y6 := HX5.out.box.c2 (i := 6) (v := .slice none 0 0) rfl rfl; have fz := HX5.out.box.f0 rfl; have fy := HX5.out.box.f2 rfl)
    | (go_at_call 33; go_must (refine (rSame_any K b A5 (some ⟨bb, oo, none⟩) K.length c5 n c _ HS5.out.rb (HS.out _ HX5.out.box.up).rb).mono ?_); rw [HKB.out]; rintro e x6 ⟨rfl, rfl⟩))
  (try simp only [Exit.inBlock, Exit.then])
  have HR := Lib.hid ((HX5.out.fill7 rfl (.slice none 0 0) (.int .i64 0) (.slice none 0 0) (.int .i64 0) (.int .i64 0) (.int .i64 0) (.slice none 0 0)))
  refine bodyPost_ret (results_box1 rfl _ _ w.heap.size _ rfl (HR.out.box.cells0 rfl) (by kernel_rfl) (by kernel_rfl)) rfl ?_
  exact ent_none (mk := fun v => .tuple #[v, .int .i64 27]) HR.out.box.up
set_option maxRecDepth 100000 in
set_option maxHeartbeats 2000000 in
theorem rp_P_okC (b : List UInt8) (A : Option Addr) (n c : Nat) (w : World) (row : List UInt8) (p1 : Nat) (f g : UInt8) (qual : List UInt8) (p2 : Nat) (t p3 : Nat) (s p4 : Nat) (k : UInt8) (K : List UInt8) (hs : Sl w A n c b) (hn : n ≤ 140737488355000) (h0 : readO b 0 = (row, p1, 0)) (hlen : p1 + 2 ≤ n) (hf : b[p1]? = some f) (hg : b[p1 + 1]? = some g) (hg0 : g.toNat ≠ 0) (h2 : readO b ((p1 + 2 : Nat) : Int) = (qual, p2, 0)) (hlen2 : p2 < n) (h3 : readFl b (((p2 + 1) : Nat) : Int) = (t, p3, 0)) (h4 : readFl b (p3 : Int) = (s, p4, 0)) (hlen4 : p4 + 1 = n) (hk : b[p4]? = some k) (hke : KeyE ⟨row, (f.toNat : Int), qual, (t : Int), (s : Int), (k.toNat : Int), []⟩ = (K, 0)) (hkb : (K == b) = true) :
    Calls Tryz.prog 63 #[.slice A n c] w (EntPost (fun v => .tuple #[v, .int .i64 0]) ⟨row, (f.toNat : Int), qual, (t : Int), (s : Int), (k.toNat : Int), []⟩ w) := by
  have HS : Hid (∀ x, Below w.heap.size w x → Sl x A n c b) := Lib.hid fun x h => hs.later h
  have HX0 := Lib.hid (Bt.of (T := 5) (Bxs.three w 46 #[.slice none 0 0, .int .i64 0, .slice none 0 0, .int .i64 0, .int .i64 0, .int .i64 0, .slice none 0 0] #[.slice none 0 0, .int .i64 0, .slice none 0 0, .int .i64 0, .int .i64 0, .int .i64 0, .slice none 0 0] #[.slice none 0 0, .int .i64 0, .slice none 0 0, .int .i64 0, .int .i64 0, .int .i64 0, .slice none 0 0]))
  have H0 := Lib.hid h0
  obtain ⟨bb, oo, _, rfl, hbb, _, _⟩ := hs.rb.at_ (k := p1) (by omega)
  have HC : Hid (∀ (j : Nat) (u : UInt8) x, b[j]? = some u → Below w.heap.size w x → x.cell? ⟨bb, oo + j, none⟩ = some (.int .u8 (u.toNat : Int))) := Lib.hid fun j u x hu hx => (hs.rb.later hx).cell hu
  have hbb0 : ¬ bb = w.heap.size := by omega
  have hbb1 : ¬ bb = w.heap.size + 1 := by omega
  have hbb2 : ¬ bb = w.heap.size + 1 + 1 := by omega
  have HF := Lib.hid hf
  have HG := Lib.hid hg
  have hgd : ((g.toNat : Int) != 0) = true := by rw [bne_iff_ne]; omega
  have H2 := Lib.hid h2
  have H3 := Lib.hid h3
  have H4 := Lib.hid h4
  have HK := Lib.hid hk
  have HKE := Lib.hid hke
  have HKB := Lib.hid hkb
  have q1 : (p1 : Int) < (n : Int) := by omega
  have q2 : (p1 : Int) + 1 < (n : Int) := by omega
  have q3 : decide ((n : Int) < (p1 : Int) + 2) = false := decide_eq_false (by omega)
  have q4 : (p2 : Int) < (n : Int) := by omega
  have q8 : wrap64 ((f.toNat : Nat) : Int) = (f.toNat : Int) := wrap64_id (by omega) (by have := f.toNat_lt; omega)
  have q9 : IntKind.i64.wrap ((f.toNat : Nat) : Int) = (f.toNat : Int) := i64_sum (by omega) (by have := f.toNat_lt; omega)
  have q10 : ((p4 : Int) + 1 != (n : Int)) = false := by rw [bne_eq_false_iff_eq]; omega
  have q5 : (p4 : Int) < (n : Int) := by omega
  have q6 : wrap64 ((k.toNat : Nat) : Int) = (k.toNat : Int) := wrap64_id (by omega) (by have := k.toNat_lt; omega)
  have q7 : IntKind.i64.wrap ((k.toNat : Nat) : Int) = (k.toNat : Int) := i64_sum (by omega) (by have := k.toNat_lt; omega)
  have tO1 : True := trivial
  have tO2 : True := trivial
  have tF1 : True := trivial
  clear hs h0 hf hg hg0 h2 h3 h4 hk hke hkb
  go_enter Tryz.func63, Tryz.ntmps63
  go_wp2_with (first
    | (go_at_call 85; have _t := tO1; go_must (refine (rRo_any b (some ⟨bb, oo, none⟩) n c 0 _ (HS.out _ HX0.out.box.up) hn).mono ?_); rw [H0.out]; rintro e x1 hp; obtain ⟨A1, c1, rfl, _, hO1, hb1⟩ := hp.at_ (n := row.length) rfl rfl rfl; have HX1 := Lib.hid (HX0.out.fresh hb1 hO1); clear hb1 hp hO1 tO1; have z0 := HX1.out.box.c0 (i := 0) (v := .slice none 0 0) rfl rfl; have n0 := HX1.out.box.c1 (i := 0) (v := .slice none 0 0) rfl rfl; have y0 := HX1.out.box.c2 (i := 0) (v := .slice none 0 0) rfl rfl; have z1 := HX1.out.box.c0 (i := 1) (v := .int .i64 0) rfl rfl; have n1 := HX1.out.box.c1 (i := 1) (v := .int .i64 0) rfl rfl; have y1 := HX1.out.box.c2 (i := 1) (v := .int .i64 0) rfl rfl; have z2 := HX1.out.box.c0 (i := 2) (v := .slice none 0 0) rfl rfl; have n2 := HX1.out.box.c1 (i := 2) (v := .slice none 0 0) rfl rfl; have y2 := HX1.out.box.c2 (i := 2) (v := .slice none 0 0) rfl rfl; have z3 := HX1.out.box.c0 (i := 3) (v := .int .i64 0) rfl rfl; have n3 := HX1.out.box.c1 (i := 3) (v := .int .i64 0) rfl rfl; have y3 := HX1.out.box.c2 (i := 3) (v := .int .i64 0) rfl rfl; have z4 := HX1.out.box.c0 (i := 4) (v := .int .i64 0) rfl rfl; have n4 := HX1.out.box.c1 (i := 4) (v := .int .i64 0) rfl rfl; have y4 := HX1.out.box.c2 (i := 4) (v := .int .i64 0) rfl rfl; have z5 := HX1.out.box.c0 (i := 5) (v := .int .i64 0) rfl rfl; have n5 := HX1.out.box.c1 (i := 5) (v := .int .i64 0) rfl rfl; have y5 := HX1.out.box.c2 (i := 5) (v := .int .i64 0) rfl rfl; have z6 := HX1.out.box.c0 (i := 6) (v := .slice none 0 0) rfl rfl; have n6 := HX1.out.box.c1 (i := 6) (v := .slice none 0 0) rfl rfl; have y6 := HX1.out.box.c2 (i := 6) (v := .slice none 0 0) rfl rfl; have fz := HX1.out.box.f0 rfl; have fy := HX1.out.box.f2 rfl; have g1 := HC.out p1 f _ HF.out HX1.out.box.up; have g2 := HC.out (p1 + 1) g _ HG.out HX1.out.box.up; have g3 := HC.out p4 k _ HK.out HX1.out.box.up)
    | (go_at_call 85; have _t := tO2; go_must (refine (rRo_any b (some ⟨bb, oo, none⟩) n c _ _ (HS.out _ ((HX1.out.s2_0 (.slice A1 row.length c1)).s2_1 (.int .i64 (f.toNat : Int))).box.up) hn).mono ?_); rw [show ((p1 : Int) + 2) = ((p1 + 2 : Nat) : Int) from by omega, H2.out]; rintro e x2 hp; obtain ⟨A2, c2, rfl, _, hO2, hb2⟩ := hp.at_ (n := qual.length) rfl rfl rfl; have HX2 := Lib.hid (((HX1.out.s2_0 (.slice A1 row.length c1)).s2_1 (.int .i64 (f.toNat : Int))).fresh hb2 hO2); clear hb2 hp hO2 tO2 g1 g2 g3; clear z0 y0 n0 z1 y1 n1 z2 y2 n2 z3 y3 n3 z4 y4 n4 z5 y5 n5 z6 y6 n6 fz fy; have z0 := HX2.out.box.c0 (i := 0) (v := .slice none 0 0) rfl rfl; have n0 := HX2.out.box.c1 (i := 0) (v := .slice none 0 0) rfl rfl; have y0 := HX2.out.box.c2 (i := 0) (v := .slice A1 row.length c1) rfl rfl; have z1 := HX2.out.box.c0 (i := 1) (v := .int .i64 0) rfl rfl; have n1 := HX2.out.box.c1 (i := 1) (v := .int .i64 0) rfl rfl; have y1 := HX2.out.box.c2 (i := 1) (v := .int .i64 (f.toNat : Int)) rfl rfl; have z2 := HX2.out.box.c0 (i := 2) (v := .slice none 0 0) rfl rfl; have n2 := HX2.out.box.c1 (i := 2) (v := .slice none 0 0) rfl rfl; have y2 := HX2.out.box.c2 (i := 2) (v := .slice none 0 0) rfl rfl; have z3 := HX2.out.box.c0 (i := 3) (v := .int .i64 0) rfl rfl; have n3 := HX2.out.box.c1 (i := 3) (v := .int .i64 0) rfl rfl; have y3 := HX2.out.box.c2 (i := 3) (v := .int .i64 0) rfl rfl; have z4 := HX2.out.box.c0 (i := 4) (v := .int .i64 0) rfl rfl; have n4 := HX2.out.box.c1 (i := 4) (v := .int .i64 0) rfl rfl; have y4 := HX2.out.box.c2 (i := 4) (v := .int .i64 0) rfl rfl; have z5 := HX2.out.box.c0 (i := 5) (v := .int .i64 0) rfl rfl; have n5 := HX2.out.box.c1 (i := 5) (v := .int .i64 0) rfl rfl; have y5 := HX2.out.box.c2 (i := 5) (v := .int .i64 0) rfl rfl; have z6 := HX2.out.box.c0 (i := 6) (v := .slice none 0 0) rfl rfl; have n6 := HX2.out.box.c1 (i := 6) (v := .slice none 0 0) rfl rfl; have y6 := HX2.out.box.c2 (i := 6) (v := .slice none 0 0) rfl rfl; have fz := HX2.out.box.f0 rfl; have fy := HX2.out.box.f2 rfl; have g3 := HC.out p4 k _ HK.out HX2.out.box.up)
    | (go_at_call 86; have _t := tF1; go_must (refine (rRfl_any b (some ⟨bb, oo, none⟩) n c _ _ (HS.out _ (HX2.out.s2_2 (.slice A2 qual.length c2)).box.up) hn).mono ?_); rw [show ((p2 : Int) + 1) = ((p2 + 1 : Nat) : Int) from by omega, H3.out]; rintro e x3 ⟨rfl, rfl⟩; clear tF1)
    | (go_at_call 86; go_must (refine (rRfl_any b (some ⟨bb, oo, none⟩) n c _ _ (HS.out _ ((HX2.out.s2_2 (.slice A2 qual.length c2)).s2_3 (.int .i64 (t : Int))).box.up) hn).mono ?_); rw [H4.out]; rintro e x4 ⟨rfl, rfl⟩)
    | (go_at_call 20; go_must (refine (rKey_any ⟨row, (f.toNat : Int), qual, (t : Int), (s : Int), (k.toNat : Int), []⟩ A1 row.length c1 A2 qual.length c2 none 0 0 _ ⟨((((HX2.out.s2_2 (.slice A2 qual.length c2)).s2_3 (.int .i64 (t : Int))).s2_4 (.int .i64 (s : Int))).s2_5 (.int .i64 (k.toNat : Int))).rows.sl (i := 0) rfl, (((((HX2.out.s2_2 (.slice A2 qual.length c2)).s2_3 (.int .i64 (t : Int))).s2_4 (.int .i64 (s : Int))).s2_5 (.int .i64 (k.toNat : Int))).rows.sl (i := 1) rfl), Sl.none _⟩).mono ?_); rw [HKE.out]; rintro e x5 hp; obtain ⟨A5, c5, rfl, hS5, hO5, hb5⟩ := hp.at_ (n := K.length) rfl rfl; have HX5 := Lib.hid (((((HX2.out.s2_2 (.slice A2 qual.length c2)).s2_3 (.int .i64 (t : Int))).s2_4 (.int .i64 (s : Int))).s2_5 (.int .i64 (k.toNat : Int))).fresh hb5 hO5); have HS5 := Lib.hid hS5; clear hb5 hp hO5 hS5 g3; clear z0 y0 n0 z1 y1 n1 z2 y2 n2 z3 y3 n3 z4 y4 n4 z5 y5 n5 z6 y6 n6 fz fy; have z0 := HX5.out.box.c0 (i := 0) (v := .slice none 0 0) rfl rfl; have n0 := HX5.out.box.c1 (i := 0) (v := .slice none 0 0) rfl rfl; have y0 := HX5.out.box.c2 (i := 0) (v := .slice A1 row.length c1) rfl rfl; have z1 := HX5.out.box.c0 (i := 1) (v := .int .i64 0) rfl rfl; have n1 := HX5.out.box.c1 (i := 1) (v := .int .i64 0) rfl rfl; have y1 := HX5.out.box.c2 (i := 1) (v := .int .i64 (f.toNat : Int)) rfl rfl; have z2 := HX5.out.box.c0 (i := 2) (v := .slice none 0 0) rfl rfl; have n2 := HX5.out.box.c1 (i := 2) (v := .slice none 0 0) rfl rfl; have y2 := HX5.out.box.c2 (i := 2) (v := .slice A2 qual.length c2) rfl rfl; have z3 := HX5.out.box.c0 (i := 3) (v := .int .i64 0) rfl rfl; have n3 := HX5.out.box.c1 (i := 3) (v := .int .i64 0) rfl rfl; have y3 := HX5.out.box.c2 (i := 3) (v := .int .i64 (t : Int)) rfl rfl; have z4 := HX5.out.box.c0 (i := 4) (v := .int .i64 0) rfl rfl; have n4 := HX5.out.box.c1 (i := 4) (v := .int .i64 0) rfl rfl; have y4 := HX5.out.box.c2 (i := 4) (v := .int .i64 (s : Int)) rfl rfl; have z5 := HX5.out.box.c0 (i := 5) (v := .int .i64 0) rfl rfl; have n5 := HX5.out.box.c1 (i := 5) (v := .int .i64 0) rfl rfl; have y5 := HX5.out.box.c2 (i := 5) (v := .int .i64 (k.toNat : Int)) rfl rfl; have z6 := HX5.out.box.c0 (i := 6) (v := .slice none 0 0) rfl rfl; have n6 := HX5.out.box.c1 (i := 6) (v := .slice none 0 0) rfl rfl; have y6 := HX5.out.box.c2 (i := 6) (v := .slice none 0 0) rfl rfl; have fz := HX5.out.box.f0 rfl; have fy := HX5.out.box.f2 rfl)
    | (go_at_call 33; go_must (refine (rSame_any K b A5 (some ⟨bb, oo, none⟩) K.length c5 n c _ HS5.out.rb (HS.out _ HX5.out.box.up).rb).mono ?_); rw [HKB.out]; rintro e x6 ⟨rfl, rfl⟩))
  (try simp only [Exit.inBlock, Exit.then])
  have HR := Lib.hid ((HX5.out.fill7 rfl (.slice A1 row.length c1) (.int .i64 (f.toNat : Int)) (.slice A2 qual.length c2) (.int .i64 (t : Int)) (.int .i64 (s : Int)) (.int .i64 (k.toNat : Int)) (.slice none 0 0)))
  refine bodyPost_ret (results_box1 rfl _ _ w.heap.size _ rfl (HR.out.box.cells0 rfl) (by kernel_rfl) (by kernel_rfl)) rfl ?_
  exact ent_post (mk := fun v => .tuple #[v, .int .i64 0]) (rows_low (rows_pre HR.out.rows) (Nat.le_add_right _ _)) HR.out.box.up
set_option maxRecDepth 100000 in
set_option maxHeartbeats 2000000 in
theorem rp_N_f3 (b : List UInt8) (A : Option Addr) (n c : Nat) (w : World) (row : List UInt8) (p1 : Nat) (f g : UInt8) (t p3 er : Nat) (hs : Sl w A n c b) (hn : n ≤ 140737488355000) (h0 : readO b 0 = (row, p1, 0)) (hlen : p1 + 2 ≤ n) (hf : b[p1]? = some f) (hg : b[p1 + 1]? = some g) (hg0 : g.toNat = 0) (h3 : readFl b (((p1 + 2) : Nat) : Int) = (t, p3, er)) (he : er ≠ 0) :
    Calls Tryz.prog 63 #[.slice A n c] w (EntPost (fun v => .tuple #[v, .int .i64 27]) noEnt w) := by
  have HS : Hid (∀ x, Below w.heap.size w x → Sl x A n c b) := Lib.hid fun x h => hs.later h
  have HX0 := Lib.hid (Bt.of (T := 5) (Bxs.three w 46 #[.slice none 0 0, .int .i64 0, .slice none 0 0, .int .i64 0, .int .i64 0, .int .i64 0, .slice none 0 0] #[.slice none 0 0, .int .i64 0, .slice none 0 0, .int .i64 0, .int .i64 0, .int .i64 0, .slice none 0 0] #[.slice none 0 0, .int .i64 0, .slice none 0 0, .int .i64 0, .int .i64 0, .int .i64 0, .slice none 0 0]))
  have H0 := Lib.hid h0
  obtain ⟨bb, oo, _, rfl, hbb, _, _⟩ := hs.rb.at_ (k := p1) (by omega)
  have HC : Hid (∀ (j : Nat) (u : UInt8) x, b[j]? = some u → Below w.heap.size w x → x.cell? ⟨bb, oo + j, none⟩ = some (.int .u8 (u.toNat : Int))) := Lib.hid fun j u x hu hx => (hs.rb.later hx).cell hu
  have hbb0 : ¬ bb = w.heap.size := by omega
  have hbb1 : ¬ bb = w.heap.size + 1 := by omega
  have hbb2 : ¬ bb = w.heap.size + 1 + 1 := by omega
  have HF := Lib.hid hf
  have HG := Lib.hid hg
  have hgd : ((g.toNat : Int) != 0) = false := by rw [hg0]; rfl
  have H3 := Lib.hid h3
  have hd : ((er : Int) != 0) = true := by rw [bne_iff_ne]; omega
  have q1 : (p1 : Int) < (n : Int) := by omega
  have q2 : (p1 : Int) + 1 < (n : Int) := by omega
  have q3 : decide ((n : Int) < (p1 : Int) + 2) = false := decide_eq_false (by omega)
  have q8 : wrap64 ((f.toNat : Nat) : Int) = (f.toNat : Int) := wrap64_id (by omega) (by have := f.toNat_lt; omega)
  have q9 : IntKind.i64.wrap ((f.toNat : Nat) : Int) = (f.toNat : Int) := i64_sum (by omega) (by have := f.toNat_lt; omega)
  have tO1 : True := trivial
  have tF1 : True := trivial
  clear hs h0 hf hg hg0 h3 he
  go_enter Tryz.func63, Tryz.ntmps63
  go_wp2_with (first
    | (go_at_call 85; have _t := tO1; go_must (refine (rRo_any b (some ⟨bb, oo, none⟩) n c 0 _ (HS.out _ HX0.out.box.up) hn).mono ?_); rw [H0.out]; rintro e x1 hp; obtain ⟨A1, c1, rfl, _, hO1, hb1⟩ := hp.at_ (n := row.length) rfl rfl rfl; have HX1 := Lib.hid (HX0.out.fresh hb1 hO1); clear hb1 hp hO1 tO1; have z0 := HX1.out.box.c0 (i := 0) (v := .slice none 0 0) rfl rfl; have n0 := HX1.out.box.c1 (i := 0) (v := .slice none 0 0) rfl rfl; have y0 := HX1.out.box.c2 (i := 0) (v := .slice none 0 0) rfl rfl; have z1 := HX1.out.box.c0 (i := 1) (v := .int .i64 0) rfl rfl; have n1 := HX1.out.box.c1 (i := 1) (v := .int .i64 0) rfl rfl; have y1 := HX1.out.box.c2 (i := 1) (v := .int .i64 0) rfl rfl; have z2 := HX1.out.box.c0 (i := 2) (v := .slice none 0 0) rfl rfl; have n2 := HX1.out.box.c1 (i := 2) (v := .slice none 0 0) rfl rfl; have y2 := HX1.out.box.c2 (i := 2) (v := .slice none 0 0) rfl rfl; have z3 := HX1.out.box.c0 (i := 3) (v := .int .i64 0) rfl rfl; have n3 := HX1.out.box.c1 (i := 3) (v := .int .i64 0) rfl rfl; have y3 := HX1.out.box.c2 (i := 3) (v := .int .i64 0) rfl rfl; have z4 := HX1.out.box.c0 (i := 4) (v := .int .i64 0) rfl rfl; have n4 := HX1.out.box.c1 (i := 4) (v := .int .i64 0) rfl rfl; have y4 := HX1.out.box.c2 (i := 4) (v := .int .i64 0) rfl rfl; have z5 := HX1.out.box.c0 (i := 5) (v := .int .i64 0) rfl rfl; have n5 := HX1.out.box.c1 (i := 5) (v := .int .i64 0) rfl rfl; have y5 := HX1.out.box.c2 (i := 5) (v := .int .i64 0) rfl rfl; have z6 := HX1.out.box.c0 (i := 6) (v := .slice none 0 0) rfl rfl; have n6 := HX1.out.box.c1 (i := 6) (v := .slice none 0 0) rfl rfl; have y6 := HX1.out.box.c2 (i := 6) (v := .slice none 0 0) rfl rfl; have fz := HX1.out.box.f0 rfl; have fy := HX1.out.box.f2 rfl; have g1 := HC.out p1 f _ HF.out HX1.out.box.up; have g2 := HC.out (p1 + 1) g _ HG.out HX1.out.box.up)
    | (go_at_call 86; have _t := tF1; go_must (refine (rRfl_any b (some ⟨bb, oo, none⟩) n c _ _ (HS.out _ ((HX1.out.s2_0 (.slice A1 row.length c1)).s2_1 (.int .i64 (f.toNat : Int))).box.up) hn).mono ?_); rw [show ((p1 : Int) + 2) = ((p1 + 2 : Nat) : Int) from by omega, H3.out]; rintro e x3 ⟨rfl, rfl⟩; clear tF1))
  (try simp only [Exit.inBlock, Exit.then])
  have HR := Lib.hid (((((HX1.out.s2_0 (.slice A1 row.length c1)).s2_1 (.int .i64 (f.toNat : Int))).s2_3 (.int .i64 (t : Int))).fill7 rfl (.slice none 0 0) (.int .i64 0) (.slice none 0 0) (.int .i64 0) (.int .i64 0) (.int .i64 0) (.slice none 0 0)))
  refine bodyPost_ret (results_box1 rfl _ _ w.heap.size _ rfl (HR.out.box.cells0 rfl) (by kernel_rfl) (by kernel_rfl)) rfl ?_
  exact ent_none (mk := fun v => .tuple #[v, .int .i64 27]) HR.out.box.up
set_option maxRecDepth 100000 in
set_option maxHeartbeats 2000000 in
theorem rp_N_f4a (b : List UInt8) (A : Option Addr) (n c : Nat) (w : World) (row : List UInt8) (p1 : Nat) (f g : UInt8) (t p3 : Nat) (s p4 er : Nat) (hs : Sl w A n c b) (hn : n ≤ 140737488355000) (h0 : readO b 0 = (row, p1, 0)) (hlen : p1 + 2 ≤ n) (hf : b[p1]? = some f) (hg : b[p1 + 1]? = some g) (hg0 : g.toNat = 0) (h3 : readFl b (((p1 + 2) : Nat) : Int) = (t, p3, 0)) (h4 : readFl b (p3 : Int) = (s, p4, er)) (he : er ≠ 0) :
    Calls Tryz.prog 63 #[.slice A n c] w (EntPost (fun v => .tuple #[v, .int .i64 27]) noEnt w) := by
  have HS : Hid (∀ x, Below w.heap.size w x → Sl x A n c b) := Lib.hid fun x h => hs.later h
  have HX0 := Lib.hid (Bt.of (T := 5) (Bxs.three w 46 #[.slice none 0 0, .int .i64 0, .slice none 0 0, .int .i64 0, .int .i64 0, .int .i64 0, .slice none 0 0] #[.slice none 0 0, .int .i64 0, .slice none 0 0, .int .i64 0, .int .i64 0, .int .i64 0, .slice none 0 0] #[.slice none 0 0, .int .i64 0, .slice none 0 0, .int .i64 0, .int .i64 0, .int .i64 0, .slice none 0 0]))
  have H0 := Lib.hid h0
  obtain ⟨bb, oo, _, rfl, hbb, _, _⟩ := hs.rb.at_ (k := p1) (by omega)
  have HC : Hid (∀ (j : Nat) (u : UInt8) x, b[j]? = some u → Below w.heap.size w x → x.cell? ⟨bb, oo + j, none⟩ = some (.int .u8 (u.toNat : Int))) := Lib.hid fun j u x hu hx => (hs.rb.later hx).cell hu
  have hbb0 : ¬ bb = w.heap.size := by omega
  have hbb1 : ¬ bb = w.heap.size + 1 := by omega
  have hbb2 : ¬ bb = w.heap.size + 1 + 1 := by omega
  have HF := Lib.hid hf
  have HG := Lib.hid hg
  have hgd : ((g.toNat : Int) != 0) = false := by rw [hg0]; rfl
  have H3 := Lib.hid h3
  have H4 := Lib.hid h4
  have hd : ((er : Int) != 0) = true := by rw [bne_iff_ne]; omega
  have q1 : (p1 : Int) < (n : Int) := by omega
  have q2 : (p1 : Int) + 1 < (n : Int) := by omega
  have q3 : decide ((n : Int) < (p1 : Int) + 2) = false := decide_eq_false (by omega)
  have q8 : wrap64 ((f.toNat : Nat) : Int) = (f.toNat : Int) := wrap64_id (by omega) (by have := f.toNat_lt; omega)
  have q9 : IntKind.i64.wrap ((f.toNat : Nat) : Int) = (f.toNat : Int) := i64_sum (by omega) (by have := f.toNat_lt; omega)
  have tO1 : True := trivial
  have tF1 : True := trivial
  clear hs h0 hf hg hg0 h3 h4 he
  go_enter Tryz.func63, Tryz.ntmps63
  go_wp2_with (first
    | (go_at_call 85; have _t := tO1; go_must (refine (rRo_any b (some ⟨bb, oo, none⟩) n c 0 _ (HS.out _ HX0.out.box.up) hn).mono ?_); rw [H0.out]; rintro e x1 hp; obtain ⟨A1, c1, rfl, _, hO1, hb1⟩ := hp.at_ (n := row.length) rfl rfl rfl; have HX1 := Lib.hid (HX0.out.fresh hb1 hO1); clear hb1 hp hO1 tO1; have z0 := HX1.out.box.c0 (i := 0) (v := .slice none 0 0) rfl rfl; have n0 := HX1.out.box.c1 (i := 0) (v := .slice none 0 0) rfl rfl; have y0 := HX1.out.box.c2 (i := 0) (v := .slice none 0 0) rfl rfl; have z1 := HX1.out.box.c0 (i := 1) (v := .int .i64 0) rfl rfl; have n1 := HX1.out.box.c1 (i := 1) (v := .int .i64 0) rfl rfl; have y1 := HX1.out.box.c2 (i := 1) (v := .int .i64 0) rfl rfl; have z2 := HX1.out.box.c0 (i := 2) (v := .slice none 0 0) rfl rfl; have n2 := HX1.out.box.c1 (i := 2) (v := .slice none 0 0) rfl rfl; have y2 := HX1.out.box.c2 (i := 2) (v := .slice none 0 0) rfl rfl; have z3 := HX1.out.box.c0 (i := 3) (v := .int .i64 0) rfl rfl; have n3 := HX1.out.box.c1 (i := 3) (v := .int .i64 0) rfl rfl; have y3 := HX1.out.box.c2 (i := 3) (v := .int .i64 0) rfl rfl; have z4 := HX1.out.box.c0 (i := 4) (v := .int .i64 0) rfl rfl; have n4 := HX1.out.box.c1 (i := 4) (v := .int .i64 0) rfl rfl; have y4 := HX1.out.box.c2 (i := 4) (v := .int .i64 0) rfl rfl; have z5 := HX1.out.box.c0 (i := 5) (v := .int .i64 0) rfl rfl; have n5 := HX1.out.box.c1 (i := 5) (v := .int .i64 0) rfl rfl; have y5 := HX1.out.box.c2 (i := 5) (v := .int .i64 0) rfl rfl; have z6 := HX1.out.box.c0 (i := 6) (v := .slice none 0 0) rfl rfl; have n6 := HX1.out.box.c1 (i := 6) (v := .slice none 0 0) rfl rfl; have y6 := HX1.out.box.c2 (i := 6) (v := .slice none 0 0) rfl rfl; have fz := HX1.out.box.f0 rfl; have fy := HX1.out.box.f2 rfl; have g1 := HC.out p1 f _ HF.out HX1.out.box.up; have g2 := HC.out (p1 + 1) g _ HG.out HX1.out.box.up)
    | (go_at_call 86; have _t := tF1; go_must (refine (rRfl_any b (some ⟨bb, oo, none⟩) n c _ _ (HS.out _ ((HX1.out.s2_0 (.slice A1 row.length c1)).s2_1 (.int .i64 (f.toNat : Int))).box.up) hn).mono ?_); rw [show ((p1 : Int) + 2) = ((p1 + 2 : Nat) : Int) from by omega, H3.out]; rintro e x3 ⟨rfl, rfl⟩; clear tF1)
    | (go_at_call 86; go_must (refine (rRfl_any b (some ⟨bb, oo, none⟩) n c _ _ (HS.out _ (((HX1.out.s2_0 (.slice A1 row.length c1)).s2_1 (.int .i64 (f.toNat : Int))).s2_3 (.int .i64 (t : Int))).box.up) hn).mono ?_); rw [H4.out]; rintro e x4 ⟨rfl, rfl⟩))
  (try simp only [Exit.inBlock, Exit.then])
  have HR := Lib.hid ((((((HX1.out.s2_0 (.slice A1 row.length c1)).s2_1 (.int .i64 (f.toNat : Int))).s2_3 (.int .i64 (t : Int))).s2_4 (.int .i64 (s : Int))).fill7 rfl (.slice none 0 0) (.int .i64 0) (.slice none 0 0) (.int .i64 0) (.int .i64 0) (.int .i64 0) (.slice none 0 0)))
  refine bodyPost_ret (results_box1 rfl _ _ w.heap.size _ rfl (HR.out.box.cells0 rfl) (by kernel_rfl) (by kernel_rfl)) rfl ?_
  exact ent_none (mk := fun v => .tuple #[v, .int .i64 27]) HR.out.box.up
set_option maxRecDepth 100000 in
set_option maxHeartbeats 2000000 in
theorem rp_N_f4b (b : List UInt8) (A : Option Addr) (n c : Nat) (w : World) (row : List UInt8) (p1 : Nat) (f g : UInt8) (t p3 : Nat) (s p4 : Nat) (hs : Sl w A n c b) (hn : n ≤ 140737488355000) (h0 : readO b 0 = (row, p1, 0)) (hlen : p1 + 2 ≤ n) (hf : b[p1]? = some f) (hg : b[p1 + 1]? = some g) (hg0 : g.toNat = 0) (h3 : readFl b (((p1 + 2) : Nat) : Int) = (t, p3, 0)) (h4 : readFl b (p3 : Int) = (s, p4, 0)) (hp4 : p4 ≤ n) (hsh : p4 + 1 ≠ n) :
    Calls Tryz.prog 63 #[.slice A n c] w (EntPost (fun v => .tuple #[v, .int .i64 27]) noEnt w) := by
  have HS : Hid (∀ x, Below w.heap.size w x → Sl x A n c b) := Lib.hid fun x h => hs.later h
  have HX0 := Lib.hid (Bt.of (T := 5) (Bxs.three w 46 #[.slice none 0 0, .int .i64 0, .slice none 0 0, .int .i64 0, .int .i64 0, .int .i64 0, .slice none 0 0] #[.slice none 0 0, .int .i64 0, .slice none 0 0, .int .i64 0, .int .i64 0, .int .i64 0, .slice none 0 0] #[.slice none 0 0, .int .i64 0, .slice none 0 0, .int .i64 0, .int .i64 0, .int .i64 0, .slice none 0 0]))
  have H0 := Lib.hid h0
  obtain ⟨bb, oo, _, rfl, hbb, _, _⟩ := hs.rb.at_ (k := p1) (by omega)
  have HC : Hid (∀ (j : Nat) (u : UInt8) x, b[j]? = some u → Below w.heap.size w x → x.cell? ⟨bb, oo + j, none⟩ = some (.int .u8 (u.toNat : Int))) := Lib.hid fun j u x hu hx => (hs.rb.later hx).cell hu
  have hbb0 : ¬ bb = w.heap.size := by omega
  have hbb1 : ¬ bb = w.heap.size + 1 := by omega
  have hbb2 : ¬ bb = w.heap.size + 1 + 1 := by omega
  have HF := Lib.hid hf
  have HG := Lib.hid hg
  have hgd : ((g.toNat : Int) != 0) = false := by rw [hg0]; rfl
  have H3 := Lib.hid h3
  have H4 := Lib.hid h4
  have q1 : (p1 : Int) < (n : Int) := by omega
  have q2 : (p1 : Int) + 1 < (n : Int) := by omega
  have q3 : decide ((n : Int) < (p1 : Int) + 2) = false := decide_eq_false (by omega)
  have q8 : wrap64 ((f.toNat : Nat) : Int) = (f.toNat : Int) := wrap64_id (by omega) (by have := f.toNat_lt; omega)
  have q9 : IntKind.i64.wrap ((f.toNat : Nat) : Int) = (f.toNat : Int) := i64_sum (by omega) (by have := f.toNat_lt; omega)
  have q10 : ((p4 : Int) + 1 != (n : Int)) = true := by rw [bne_iff_ne]; omega
  have tO1 : True := trivial
  have tF1 : True := trivial
  clear hs h0 hf hg hg0 h3 h4
  go_enter Tryz.func63, Tryz.ntmps63
  go_wp2_with (first
    | (go_at_call 85; have _t := tO1; go_must (refine (rRo_any b (some ⟨bb, oo, none⟩) n c 0 _ (HS.out _ HX0.out.box.up) hn).mono ?_); rw [H0.out]; rintro e x1 hp; obtain ⟨A1, c1, rfl, _, hO1, hb1⟩ := hp.at_ (n := row.length) rfl rfl rfl; have HX1 := Lib.hid (HX0.out.fresh hb1 hO1); clear hb1 hp hO1 tO1; have z0 := HX1.out.box.c0 (i := 0) (v := .slice none 0 0) rfl rfl; have n0 := HX1.out.box.c1 (i := 0) (v := .slice none 0 0) rfl rfl; have y0 := HX1.out.box.c2 (i := 0) (v := .slice none 0 0) rfl rfl; have z1 := HX1.out.box.c0 (i := 1) (v := .int .i64 0) rfl rfl; have n1 := HX1.out.box.c1 (i := 1) (v := .int .i64 0) rfl rfl; have y1 := HX1.out.box.c2 (i := 1) (v := .int .i64 0) rfl rfl; have z2 := HX1.out.box.c0 (i := 2) (v := .slice none 0 0) rfl rfl; have n2 := HX1.out.box.c1 (i := 2) (v := .slice none 0 0) rfl rfl; have y2 := HX1.out.box.c2 (i := 2) (v := .slice none 0 0) rfl rfl; have z3 := HX1.out.box.c0 (i := 3) (v := .int .i64 0) rfl rfl; have n3 := HX1.out.box.c1 (i := 3) (v := .int .i64 0) rfl rfl; have y3 := HX1.out.box.c2 (i := 3) (v := .int .i64 0) rfl rfl; have z4 := HX1.out.box.c0 (i := 4) (v := .int .i64 0) rfl rfl; have n4 := HX1.out.box.c1 (i := 4) (v := .int .i64 0) rfl rfl; have y4 := HX1.out.box.c2 (i := 4) (v := .int .i64 0) rfl rfl; have z5 := HX1.out.box.c0 (i := 5) (v := .int .i64 0) rfl rfl; have n5 := HX1.out.box.c1 (i := 5) (v := .int .i64 0) rfl rfl; have y5 := HX1.out.box.c2 (i := 5) (v := .int .i64 0) rfl rfl; have z6 := HX1.out.box.c0 (i := 6) (v := .slice none 0 0) rfl rfl; have n6 := HX1.out.box.c1 (i := 6) (v := .slice none 0 0) rfl rfl; have y6 := HX1.out.box.c2 (i := 6) (v := .slice none 0 0) rfl rfl; have fz := HX1.out.box.f0 rfl; have fy := HX1.out.box.f2 rfl; have g1 := HC.out p1 f _ HF.out HX1.out.box.up; have g2 := HC.out (p1 + 1) g _ HG.out HX1.out.box.up)
    | (go_at_call 86; have _t := tF1; go_must (refine (rRfl_any b (some ⟨bb, oo, none⟩) n c _ _ (HS.out _ ((HX1.out.s2_0 (.slice A1 row.length c1)).s2_1 (.int .i64 (f.toNat : Int))).box.up) hn).mono ?_); rw [show ((p1 : Int) + 2) = ((p1 + 2 : Nat) : Int) from by omega, H3.out]; rintro e x3 ⟨rfl, rfl⟩; clear tF1)
    | (go_at_call 86; go_must (refine (rRfl_any b (some ⟨bb, oo, none⟩) n c _ _ (HS.out _ (((HX1.out.s2_0 (.slice A1 row.length c1)).s2_1 (.int .i64 (f.toNat : Int))).s2_3 (.int .i64 (t : Int))).box.up) hn).mono ?_); rw [H4.out]; rintro e x4 ⟨rfl, rfl⟩))
  (try simp only [Exit.inBlock, Exit.then])
  have HR := Lib.hid ((((((HX1.out.s2_0 (.slice A1 row.length c1)).s2_1 (.int .i64 (f.toNat : Int))).s2_3 (.int .i64 (t : Int))).s2_4 (.int .i64 (s : Int))).fill7 rfl (.slice none 0 0) (.int .i64 0) (.slice none 0 0) (.int .i64 0) (.int .i64 0) (.int .i64 0) (.slice none 0 0)))
  refine bodyPost_ret (results_box1 rfl _ _ w.heap.size _ rfl (HR.out.box.cells0 rfl) (by kernel_rfl) (by kernel_rfl)) rfl ?_
  exact ent_none (mk := fun v => .tuple #[v, .int .i64 27]) HR.out.box.up
set_option maxRecDepth 100000 in
set_option maxHeartbeats 2000000 in
theorem rp_N_okA (b : List UInt8) (A : Option Addr) (n c : Nat) (w : World) (row : List UInt8) (p1 : Nat) (f g : UInt8) (t p3 : Nat) (s p4 : Nat) (k : UInt8) (K : List UInt8) (z : Int) (hs : Sl w A n c b) (hn : n ≤ 140737488355000) (h0 : readO b 0 = (row, p1, 0)) (hlen : p1 + 2 ≤ n) (hf : b[p1]? = some f) (hg : b[p1 + 1]? = some g) (hg0 : g.toNat = 0) (h3 : readFl b (((p1 + 2) : Nat) : Int) = (t, p3, 0)) (h4 : readFl b (p3 : Int) = (s, p4, 0)) (hlen4 : p4 + 1 = n) (hk : b[p4]? = some k) (hz : z ≠ 0) (hke : KeyE ⟨row, (f.toNat : Int), [], (t : Int), (s : Int), (k.toNat : Int), []⟩ = (K, z)) :
    Calls Tryz.prog 63 #[.slice A n c] w (EntPost (fun v => .tuple #[v, .int .i64 27]) noEnt w) := by
  have HS : Hid (∀ x, Below w.heap.size w x → Sl x A n c b) := Lib.hid fun x h => hs.later h
  have HX0 := Lib.hid (Bt.of (T := 5) (Bxs.three w 46 #[.slice none 0 0, .int .i64 0, .slice none 0 0, .int .i64 0, .int .i64 0, .int .i64 0, .slice none 0 0] #[.slice none 0 0, .int .i64 0, .slice none 0 0, .int .i64 0, .int .i64 0, .int .i64 0, .slice none 0 0] #[.slice none 0 0, .int .i64 0, .slice none 0 0, .int .i64 0, .int .i64 0, .int .i64 0, .slice none 0 0]))
  have H0 := Lib.hid h0
  obtain ⟨bb, oo, _, rfl, hbb, _, _⟩ := hs.rb.at_ (k := p1) (by omega)
  have HC : Hid (∀ (j : Nat) (u : UInt8) x, b[j]? = some u → Below w.heap.size w x → x.cell? ⟨bb, oo + j, none⟩ = some (.int .u8 (u.toNat : Int))) := Lib.hid fun j u x hu hx => (hs.rb.later hx).cell hu
  have hbb0 : ¬ bb = w.heap.size := by omega
  have hbb1 : ¬ bb = w.heap.size + 1 := by omega
  have hbb2 : ¬ bb = w.heap.size + 1 + 1 := by omega
  have HF := Lib.hid hf
  have HG := Lib.hid hg
  have hgd : ((g.toNat : Int) != 0) = false := by rw [hg0]; rfl
  have H3 := Lib.hid h3
  have H4 := Lib.hid h4
  have HK := Lib.hid hk
  have HKE := Lib.hid hke
  have hd : (z != 0) = true := by rw [bne_iff_ne]; exact hz
  have q1 : (p1 : Int) < (n : Int) := by omega
  have q2 : (p1 : Int) + 1 < (n : Int) := by omega
  have q3 : decide ((n : Int) < (p1 : Int) + 2) = false := decide_eq_false (by omega)
  have q8 : wrap64 ((f.toNat : Nat) : Int) = (f.toNat : Int) := wrap64_id (by omega) (by have := f.toNat_lt; omega)
  have q9 : IntKind.i64.wrap ((f.toNat : Nat) : Int) = (f.toNat : Int) := i64_sum (by omega) (by have := f.toNat_lt; omega)
  have q10 : ((p4 : Int) + 1 != (n : Int)) = false := by rw [bne_eq_false_iff_eq]; omega
  have q5 : (p4 : Int) < (n : Int) := by omega
  have q6 : wrap64 ((k.toNat : Nat) : Int) = (k.toNat : Int) := wrap64_id (by omega) (by have := k.toNat_lt; omega)
  have q7 : IntKind.i64.wrap ((k.toNat : Nat) : Int) = (k.toNat : Int) := i64_sum (by omega) (by have := k.toNat_lt; omega)
  have tO1 : True := trivial
  have tF1 : True := trivial
  clear hs h0 hf hg hg0 h3 h4 hk hke hz
  go_enter Tryz.func63, Tryz.ntmps63
  go_wp2_with (first
    | (go_at_call 85; have _t := tO1; go_must (refine (rRo_any b (some ⟨bb, oo, none⟩) n c 0 _ (HS.out _ HX0.out.box.up) hn).mono ?_); rw [H0.out]; rintro e x1 hp; obtain ⟨A1, c1, rfl, _, hO1, hb1⟩ := hp.at_ (n := row.length) rfl rfl rfl; have HX1 := Lib.hid (HX0.out.fresh hb1 hO1); clear hb1 hp hO1 tO1; have z0 := HX1.out.box.c0 (i := 0) (v := .slice none 0 0) rfl rfl; have n0 := HX1.out.box.c1 (i := 0) (v := .slice none 0 0) rfl rfl; have y0 := HX1.out.box.c2 (i := 0) (v := .slice none 0 0) rfl rfl; have z1 := HX1.out.box.c0 (i := 1) (v := .int .i64 0) rfl rfl; have n1 := HX1.out.box.c1 (i := 1) (v := .int .i64 0) rfl rfl; have y1 := HX1.out.box.c2 (i := 1) (v := .int .i64 0) rfl rfl; have z2 := HX1.out.box.c0 (i := 2) (v := .slice none 0 0) rfl rfl; have n2 := HX1.out.box.c1 (i := 2) (v := .slice none 0 0) rfl rfl; have y2 := HX1.out.box.c2 (i := 2) (v := .slice none 0 0) rfl rfl; have z3 := HX1.out.box.c0 (i := 3) (v := .int .i64 0) rfl rfl; have n3 := HX1.out.box.c1 (i := 3) (v := .int .i64 0) rfl rfl; have y3 := HX1.out.box.c2 (i := 3) (v := .int .i64 0) rfl rfl; have z4 := HX1.out.box.c0 (i := 4) (v := .int .i64 0) rfl rfl; have n4 := HX1.out.box.c1 (i := 4) (v := .int .i64 0) rfl rfl; have y4 := HX1.out.box.c2 (i := 4) (v := .int .i64 0) rfl rfl; have z5 := HX1.out.box.c0 (i := 5) (v := .int .i64 0) rfl rfl; have n5 := HX1.out.box.c1 (i := 5) (v := .int .i64 0) rfl rfl; have y5 := HX1.out.box.c2 (i := 5) (v := .int .i64 0) rfl rfl; have z6 := HX1.out.box.c0 (i := 6) (v := .slice none 0 0) rfl rfl; have n6 := HX1.out.box.c1 (i := 6) (v := .slice none 0 0) rfl rfl; have y6 := HX1.out.box.c2 (i := 6) (v := .slice none 0 0) rfl rfl; have fz := HX1.out.box.f0 rfl; have fy := HX1.out.box.f2 rfl; have g1 := HC.out p1 f _ HF.out HX1.out.box.up; have g2 := HC.out (p1 + 1) g _ HG.out HX1.out.box.up; have g3 := HC.out p4 k _ HK.out HX1.out.box.up)
    | (go_at_call 86; have _t := tF1; go_must (refine (rRfl_any b (some ⟨bb, oo, none⟩) n c _ _ (HS.out _ ((HX1.out.s2_0 (.slice A1 row.length c1)).s2_1 (.int .i64 (f.toNat : Int))).box.up) hn).mono ?_); rw [show ((p1 : Int) + 2) = ((p1 + 2 : Nat) : Int) from by omega, H3.out]; rintro e x3 ⟨rfl, rfl⟩; clear tF1)
    | (go_at_call 86; go_must (refine (rRfl_any b (some ⟨bb, oo, none⟩) n c _ _ (HS.out _ (((HX1.out.s2_0 (.slice A1 row.length c1)).s2_1 (.int .i64 (f.toNat : Int))).s2_3 (.int .i64 (t : Int))).box.up) hn).mono ?_); rw [H4.out]; rintro e x4 ⟨rfl, rfl⟩)
    | (go_at_call 20; go_must (refine (rKey_any ⟨row, (f.toNat : Int), [], (t : Int), (s : Int), (k.toNat : Int), []⟩ A1 row.length c1 none 0 0 none 0 0 _ ⟨(((((HX1.out.s2_0 (.slice A1 row.length c1)).s2_1 (.int .i64 (f.toNat : Int))).s2_3 (.int .i64 (t : Int))).s2_4 (.int .i64 (s : Int))).s2_5 (.int .i64 (k.toNat : Int))).rows.sl (i := 0) rfl, (Sl.none _), Sl.none _⟩).mono ?_); rw [HKE.out]; rintro e x5 hp; obtain ⟨A5, c5, rfl, hS5, hO5, hb5⟩ := hp.at_ (n := K.length) rfl rfl; have HX5 := Lib.hid ((((((HX1.out.s2_0 (.slice A1 row.length c1)).s2_1 (.int .i64 (f.toNat : Int))).s2_3 (.int .i64 (t : Int))).s2_4 (.int .i64 (s : Int))).s2_5 (.int .i64 (k.toNat : Int))).fresh hb5 hO5); have HS5 := Lib.hid hS5; clear hb5 hp hO5 hS5 g1 g2 g3; clear z0 y0 n0 z1 y1 n1 z2 y2 n2 z3 y3 n3 z4 y4 n4 z5 y5 n5 z6 y6 n6 fz fy; have z0 := HX5.out.box.c0 (i := 0) (v := .slice none 0 0) rfl rfl; have n0 := HX5.out.box.c1 (i := 0) (v := .slice none 0 0) rfl rfl; have y0 := HX5.out.box.c2 (i := 0) (v := .slice A1 row.length c1) rfl rfl; have z1 := HX5.out.box.c0 (i := 1) (v := .int .i64 0) rfl rfl; have n1 := HX5.out.box.c1 (i := 1) (v := .int .i64 0) rfl rfl; have y1 := HX5.out.box.c2 (i := 1) (v := .int .i64 (f.toNat : Int)) rfl rfl; have z2 := HX5.out.box.c0 (i := 2) (v := .slice none 0 0) rfl rfl; have n2 := HX5.out.box.c1 (i := 2) (v := .slice none 0 0) rfl rfl; have y2 := HX5.out.box.c2 (i := 2) (v := .slice none 0 0) rfl rfl; have z3 := HX5.out.box.c0 (i := 3) (v := .int .i64 0) rfl rfl; have n3 := HX5.out.box.c1 (i := 3) (v := .int .i64 0) rfl rfl; have y3 := HX5.out.box.c2 (i := 3) (v := .int .i64 (t : Int)) rfl rfl; have z4 := HX5.out.box.c0 (i := 4) (v := .int .i64 0) rfl rfl; have n4 := HX5.out.box.c1 (i := 4) (v := .int .i64 0) rfl rfl; have y4 := HX5.out.box.c2 (i := 4) (v := .int .i64 (s : Int)) rfl rfl; have z5 := HX5.out.box.c0 (i := 5) (v := .int .i64 0) rfl rfl; have n5 := HX5.out.box.c1 (i := 5) (v := .int .i64 0) rfl rfl; have y5 := HX5.out.box.c2 (i := 5) (v := .int .i64 (k.toNat : Int)) rfl rfl; have z6 := HX5.out.box.c0 (i := 6) (v := .slice none 0 0) rfl rfl; have n6 := HX5.out.box.c1 (i := 6) (v := .slice none 0 0) rfl rfl; have y6 := HX5.out.box.c2 (i := 6) (v := .slice none 0 0) rfl rfl; have fz := HX5.out.box.f0 rfl; have fy := HX5.out.box.f2 rfl))
  (try simp only [Exit.inBlock, Exit.then])
  have HR := Lib.hid ((HX5.out.fill7 rfl (.slice none 0 0) (.int .i64 0) (.slice none 0 0) (.int .i64 0) (.int .i64 0) (.int .i64 0) (.slice none 0 0)))
  refine bodyPost_ret (results_box1 rfl _ _ w.heap.size _ rfl (HR.out.box.cells0 rfl) (by kernel_rfl) (by kernel_rfl)) rfl ?_
  exact ent_none (mk := fun v => .tuple #[v, .int .i64 27]) HR.out.box.up
set_option maxRecDepth 100000 in
set_option maxHeartbeats 2000000 in
theorem rp_N_okB (b : List UInt8) (A : Option Addr) (n c : Nat) (w : World) (row : List UInt8) (p1 : Nat) (f g : UInt8) (t p3 : Nat) (s p4 : Nat) (k : UInt8) (K : List UInt8) (hs : Sl w A n c b) (hn : n ≤ 140737488355000) (h0 : readO b 0 = (row, p1, 0)) (hlen : p1 + 2 ≤ n) (hf : b[p1]? = some f) (hg : b[p1 + 1]? = some g) (hg0 : g.toNat = 0) (h3 : readFl b (((p1 + 2) : Nat) : Int) = (t, p3, 0)) (h4 : readFl b (p3 : Int) = (s, p4, 0)) (hlen4 : p4 + 1 = n) (hk : b[p4]? = some k) (hke : KeyE ⟨row, (f.toNat : Int), [], (t : Int), (s : Int), (k.toNat : Int), []⟩ = (K, 0)) (hkb : (K == b) = false) :
    Calls Tryz.prog 63 #[.slice A n c] w (EntPost (fun v => .tuple #[v, .int .i64 27]) noEnt w) := by
  have HS : Hid (∀ x, Below w.heap.size w x → Sl x A n c b) := Lib.hid fun x h => hs.later h
  have HX0 := Lib.hid (Bt.of (T := 5) (Bxs.three w 46 #[.slice none 0 0, .int .i64 0, .slice none 0 0, .int .i64 0, .int .i64 0, .int .i64 0, .slice none 0 0] #[.slice none 0 0, .int .i64 0, .slice none 0 0, .int .i64 0, .int .i64 0, .int .i64 0, .slice none 0 0] #[.slice none 0 0, .int .i64 0, .slice none 0 0, .int .i64 0, .int .i64 0, .int .i64 0, .slice none 0 0]))
  have H0 := Lib.hid h0
  obtain ⟨bb, oo, _, rfl, hbb, _, _⟩ := hs.rb.at_ (k := p1) (by omega)
  have HC : Hid (∀ (j : Nat) (u : UInt8) x, b[j]? = some u → Below w.heap.size w x → x.cell? ⟨bb, oo + j, none⟩ = some (.int .u8 (u.toNat : Int))) := Lib.hid fun j u x hu hx => (hs.rb.later hx).cell hu
  have hbb0 : ¬ bb = w.heap.size := by omega
  have hbb1 : ¬ bb = w.heap.size + 1 := by omega
  have hbb2 : ¬ bb = w.heap.size + 1 + 1 := by omega
  have HF := Lib.hid hf
  have HG := Lib.hid hg
  have hgd : ((g.toNat : Int) != 0) = false := by rw [hg0]; rfl
  have H3 := Lib.hid h3
  have H4 := Lib.hid h4
  have HK := Lib.hid hk
  have HKE := Lib.hid hke
  have HKB := Lib.hid hkb
  have q1 : (p1 : Int) < (n : Int) := by omega
  have q2 : (p1 : Int) + 1 < (n : Int) := by omega
  have q3 : decide ((n : Int) < (p1 : Int) + 2) = false := decide_eq_false (by omega)
  have q8 : wrap64 ((f.toNat : Nat) : Int) = (f.toNat : Int) := wrap64_id (by omega) (by have := f.toNat_lt; omega)
  have q9 : IntKind.i64.wrap ((f.toNat : Nat) : Int) = (f.toNat : Int) := i64_sum (by omega) (by have := f.toNat_lt; omega)
  have q10 : ((p4 : Int) + 1 != (n : Int)) = false := by rw [bne_eq_false_iff_eq]; omega
  have q5 : (p4 : Int) < (n : Int) := by omega
  have q6 : wrap64 ((k.toNat : Nat) : Int) = (k.toNat : Int) := wrap64_id (by omega) (by have := k.toNat_lt; omega)
  have q7 : IntKind.i64.wrap ((k.toNat : Nat) : Int) = (k.toNat : Int) := i64_sum (by omega) (by have := k.toNat_lt; omega)
  have tO1 : True := trivial
  have tF1 : True := trivial
  clear hs h0 hf hg hg0 h3 h4 hk hke hkb
  go_enter Tryz.func63, Tryz.ntmps63
  go_wp2_with (first
    | (go_at_call 85; have _t := tO1; go_must (refine (rRo_any b (some ⟨bb, oo, none⟩) n c 0 _ (HS.out _ HX0.out.box.up) hn).mono ?_); rw [H0.out]; rintro e x1 hp; obtain ⟨A1, c1, rfl, _, hO1, hb1⟩ := hp.at_ (n := row.length) rfl rfl rfl; have HX1 := Lib.hid (HX0.out.fresh hb1 hO1); clear hb1 hp hO1 tO1; have z0 := HX1.out.box.c0 (i := 0) (v := .slice none 0 0) rfl rfl; have n0 := HX1.out.box.c1 (i := 0) (v := .slice none 0 0) rfl rfl; have y0 := HX1.out.box.c2 (i := 0) (v := .slice none 0 0) rfl rfl; have z1 := HX1.out.box.c0 (i := 1) (v := .int .i64 0) rfl rfl; have n1 := HX1.out.box.c1 (i := 1) (v := .int .i64 0) rfl rfl; have y1 := HX1.out.box.c2 (i := 1) (v := .int .i64 0) rfl rfl; have z2 := HX1.out.box.c0 (i := 2) (v := .slice none 0 0) rfl rfl; have n2 := HX1.out.box.c1 (i := 2) (v := .slice none 0 0) rfl rfl; have y2 := HX1.out.box.c2 (i := 2) (v := .slice none 0 0) rfl rfl; have z3 := HX1.out.box.c0 (i := 3) (v := .int .i64 0) rfl rfl; have n3 := HX1.out.box.c1 (i := 3) (v := .int .i64 0) rfl rfl; have y3 := HX1.out.box.c2 (i := 3) (v := .int .i64 0) rfl rfl; have z4 := HX1.out.box.c0 (i := 4) (v := .int .i64 0) rfl rfl; have n4 := HX1.out.box.c1 (i := 4) (v := .int .i64 0) rfl rfl; have y4 := HX1.out.box.c2 (i := 4) (v := .int .i64 0) rfl rfl; have z5 := HX1.out.box.c0 (i := 5) (v := .int .i64 0) rfl rfl; have n5 := HX1.out.box.c1 (i := 5) (v := .int .i64 0) rfl rfl; have y5 := HX1.out.box.c2 (i := 5) (v := .int .i64 0) rfl rfl; have z6 := HX1.out.box.c0 (i := 6) (v := .slice none 0 0) rfl rfl; have n6 := HX1.out.box.c1 (i := 6) (v := .slice none 0 0) rfl rfl; have y6 := HX1.out.box.c2 (i := 6) (v := .slice none 0 0) rfl rfl; have fz := HX1.out.box.f0 rfl; have fy := HX1.out.box.f2 rfl; have g1 := HC.out p1 f _ HF.out HX1.out.box.up; have g2 := HC.out (p1 + 1) g _ HG.out HX1.out.box.up; have g3 := HC.out p4 k _ HK.out HX1.out.box.up)
    | (go_at_call 86; have _t := tF1; go_must (refine (rRfl_any b (some ⟨bb, oo, none⟩) n c _ _ (HS.out _ ((HX1.out.s2_0 (.slice A1 row.length c1)).s2_1 (.int .i64 (f.toNat : Int))).box.up) hn).mono ?_); rw [show ((p1 : Int) + 2) = ((p1 + 2 : Nat) : Int) from by omega, H3.out]; rintro e x3 ⟨rfl, rfl⟩; clear tF1)
    | (go_at_call 86; go_must (refine (rRfl_any b (some ⟨bb, oo, none⟩) n c _ _ (HS.out _ (((HX1.out.s2_0 (.slice A1 row.length c1)).s2_1 (.int .i64 (f.toNat : Int))).s2_3 (.int .i64 (t : Int))).box.up) hn).mono ?_); rw [H4.out]; rintro e x4 ⟨rfl, rfl⟩)
    | (go_at_call 20; go_must (refine (rKey_any ⟨row, (f.toNat : Int), [], (t : Int), (s : Int), (k.toNat : Int), []⟩ A1 row.length c1 none 0 0 none 0 0 _ ⟨(((((HX1.out.s2_0 (.slice A1 row.length c1)).s2_1 (.int .i64 (f.toNat : Int))).s2_3 (.int .i64 (t : Int))).s2_4 (.int .i64 (s : Int))).s2_5 (.int .i64 (k.toNat : Int))).rows.sl (i := 0) rfl, (Sl.none _), Sl.none _⟩).mono ?_); rw [HKE.out]; rintro e x5 hp; obtain ⟨A5, c5, rfl, hS5, hO5, hb5⟩ := hp.at_ (n := K.length) rfl rfl; have HX5 := Lib.hid ((((((HX1.out.s2_0 (.slice A1 row.length c1)).s2_1 (.int .i64 (f.toNat : Int))).s2_3 (.int .i64 (t : Int))).s2_4 (.int .i64 (s : Int))).s2_5 (.int .i64 (k.toNat : Int))).fresh hb5 hO5); have HS5 := Lib.hid hS5; clear hb5 hp hO5 hS5 g1 g2 g3; clear z0 y0 n0 z1 y1 n1 z2 y2 n2 z3 y3 n3 z4 y4 n4 z5 y5 n5 z6 y6 n6 fz fy; have z0 := HX5.out.box.c0 (i := 0) (v := .slice none 0 0) rfl rfl; have n0 := HX5.out.box.c1 (i := 0) (v := .slice none 0 0) rfl rfl; have y0 := HX5.out.box.c2 (i := 0) (v := .slice A1 row.length c1) rfl rfl; have z1 := HX5.out.box.c0 (i := 1) (v := .int .i64 0) rfl rfl; have n1 := HX5.out.box.c1 (i := 1) (v := .int .i64 0) rfl rfl; have y1 := HX5.out.box.c2 (i := 1) (v := .int .i64 (f.toNat : Int)) rfl rfl; have z2 := HX5.out.box.c0 (i := 2) (v := .slice none 0 0) rfl rfl; have n2 := HX5.out.box.c1 (i := 2) (v := .slice none 0 0) rfl rfl; have y2 := HX5.out.box.c2 (i := 2) (v := .slice none 0 0) rfl rfl; have z3 := HX5.out.box.c0 (i := 3) (v := .int .i64 0) rfl rfl; have n3 := HX5.out.box.c1 (i := 3) (v := .int .i64 0) rfl rfl; have y3 := HX5.out.box.c2 (i := 3) (v := .int .i64 (t : Int)) rfl rfl; have z4 := HX5.out.box.c0 (i := 4) (v := .int .i64 0) rfl rfl; have n4 := HX5.out.box.c1 (i := 4) (v := .int .i64 0) rfl rfl; have y4 := HX5.out.box.c2 (i := 4) (v := .int .i64 (s : Int)) rfl rfl; have z5 := HX5.out.box.c0 (i := 5) (v := .int .i64 0) rfl rfl; have n5 := HX5.out.box.c1 (i := 5) (v := .int .i64 0) rfl rfl; have y5 := HX5.out.box.c2 (i := 5) (v := .int .i64 (k.toNat : Int)) rfl rfl; have z6 := HX5.out.box.c0 (i := 6) (v := .slice none 0 0) rfl rfl; have n6 := HX5.out.box.c1 (i := 6) (v := .slice none 0 0) rfl rfl; have y6 := HX5.out.box.c2 (i := 6) (v := .slice none 0 0) rfl rfl; have fz := HX5.out.box.f0 rfl; have fy := HX5.out.box.f2 rfl)
    | (go_at_call 33; go_must (refine (rSame_any K b A5 (some ⟨bb, oo, none⟩) K.length c5 n c _ HS5.out.rb (HS.out _ HX5.out.box.up).rb).mono ?_); rw [HKB.out]; rintro e x6 ⟨rfl, rfl⟩))
  (try simp only [Exit.inBlock, Exit.then])
  have HR := Lib.hid ((HX5.out.fill7 rfl (.slice none 0 0) (.int .i64 0) (.slice none 0 0) (.int .i64 0) (.int .i64 0) (.int .i64 0) (.slice none 0 0)))
  refine bodyPost_ret (results_box1 rfl _ _ w.heap.size _ rfl (HR.out.box.cells0 rfl) (by kernel_rfl) (by kernel_rfl)) rfl ?_
  exact ent_none (mk := fun v => .tuple #[v, .int .i64 27]) HR.out.box.up
set_option maxRecDepth 100000 in
set_option maxHeartbeats 2000000 in
theorem rp_N_okC (b : List UInt8) (A : Option Addr) (n c : Nat) (w : World) (row : List UInt8) (p1 : Nat) (f g : UInt8) (t p3 : Nat) (s p4 : Nat) (k : UInt8) (K : List UInt8) (hs : Sl w A n c b) (hn : n ≤ 140737488355000) (h0 : readO b 0 = (row, p1, 0)) (hlen : p1 + 2 ≤ n) (hf : b[p1]? = some f) (hg : b[p1 + 1]? = some g) (hg0 : g.toNat = 0) (h3 : readFl b (((p1 + 2) : Nat) : Int) = (t, p3, 0)) (h4 : readFl b (p3 : Int) = (s, p4, 0)) (hlen4 : p4 + 1 = n) (hk : b[p4]? = some k) (hke : KeyE ⟨row, (f.toNat : Int), [], (t : Int), (s : Int), (k.toNat : Int), []⟩ = (K, 0)) (hkb : (K == b) = true) :
    Calls Tryz.prog 63 #[.slice A n c] w (EntPost (fun v => .tuple #[v, .int .i64 0]) ⟨row, (f.toNat : Int), [], (t : Int), (s : Int), (k.toNat : Int), []⟩ w) := by
  have HS : Hid (∀ x, Below w.heap.size w x → Sl x A n c b) := Lib.hid fun x h => hs.later h
  have HX0 := Lib.hid (Bt.of (T := 5) (Bxs.three w 46 #[.slice none 0 0, .int .i64 0, .slice none 0 0, .int .i64 0, .int .i64 0, .int .i64 0, .slice none 0 0] #[.slice none 0 0, .int .i64 0, .slice none 0 0, .int .i64 0, .int .i64 0, .int .i64 0, .slice none 0 0] #[.slice none 0 0, .int .i64 0, .slice none 0 0, .int .i64 0, .int .i64 0, .int .i64 0, .slice none 0 0]))
  have H0 := Lib.hid h0
  obtain ⟨bb, oo, _, rfl, hbb, _, _⟩ := hs.rb.at_ (k := p1) (by omega)
  have HC : Hid (∀ (j : Nat) (u : UInt8) x, b[j]? = some u → Below w.heap.size w x → x.cell? ⟨bb, oo + j, none⟩ = some (.int .u8 (u.toNat : Int))) := Lib.hid fun j u x hu hx => (hs.rb.later hx).cell hu
  have hbb0 : ¬ bb = w.heap.size := by omega
  have hbb1 : ¬ bb = w.heap.size + 1 := by omega
  have hbb2 : ¬ bb = w.heap.size + 1 + 1 := by omega
  have HF := Lib.hid hf
  have HG := Lib.hid hg
  have hgd : ((g.toNat : Int) != 0) = false := by rw [hg0]; rfl
  have H3 := Lib.hid h3
  have H4 := Lib.hid h4
  have HK := Lib.hid hk
  have HKE := Lib.hid hke
  have HKB := Lib.hid hkb
  have q1 : (p1 : Int) < (n : Int) := by omega
  have q2 : (p1 : Int) + 1 < (n : Int) := by omega
  have q3 : decide ((n : Int) < (p1 : Int) + 2) = false := decide_eq_false (by omega)
  have q8 : wrap64 ((f.toNat : Nat) : Int) = (f.toNat : Int) := wrap64_id (by omega) (by have := f.toNat_lt; omega)
  have q9 : IntKind.i64.wrap ((f.toNat : Nat) : Int) = (f.toNat : Int) := i64_sum (by omega) (by have := f.toNat_lt; omega)
  have q10 : ((p4 : Int) + 1 != (n : Int)) = false := by rw [bne_eq_false_iff_eq]; omega
  have q5 : (p4 : Int) < (n : Int) := by omega
  have q6 : wrap64 ((k.toNat : Nat) : Int) = (k.toNat : Int) := wrap64_id (by omega) (by have := k.toNat_lt; omega)
  have q7 : IntKind.i64.wrap ((k.toNat : Nat) : Int) = (k.toNat : Int) := i64_sum (by omega) (by have := k.toNat_lt; omega)
  have tO1 : True := trivial
  have tF1 : True := trivial
  clear hs h0 hf hg hg0 h3 h4 hk hke hkb
  go_enter Tryz.func63, Tryz.ntmps63
  go_wp2_with (first
    | (go_at_call 85; have _t := tO1; go_must (refine (rRo_any b (some ⟨bb, oo, none⟩) n c 0 _ (HS.out _ HX0.out.box.up) hn).mono ?_); rw [H0.out]; rintro e x1 hp; obtain ⟨A1, c1, rfl, _, hO1, hb1⟩ := hp.at_ (n := row.length) rfl rfl rfl; have HX1 := Lib.hid (HX0.out.fresh hb1 hO1); clear hb1 hp hO1 tO1; have z0 := HX1.out.box.c0 (i := 0) (v := .slice none 0 0) rfl rfl; have n0 := HX1.out.box.c1 (i := 0) (v := .slice none 0 0) rfl rfl; have y0 := HX1.out.box.c2 (i := 0) (v := .slice none 0 0) rfl rfl; have z1 := HX1.out.box.c0 (i := 1) (v := .int .i64 0) rfl rfl; have n1 := HX1.out.box.c1 (i := 1) (v := .int .i64 0) rfl rfl; have y1 := HX1.out.box.c2 (i := 1) (v := .int .i64 0) rfl rfl; have z2 := HX1.out.box.c0 (i := 2) (v := .slice none 0 0) rfl rfl; have n2 := HX1.out.box.c1 (i := 2) (v := .slice none 0 0) rfl rfl; have y2 := HX1.out.box.c2 (i := 2) (v := .slice none 0 0) rfl rfl; have z3 := HX1.out.box.c0 (i := 3) (v := .int .i64 0) rfl rfl; have n3 := HX1.out.box.c1 (i := 3) (v := .int .i64 0) rfl rfl; have y3 := HX1.out.box.c2 (i := 3) (v := .int .i64 0) rfl rfl; have z4 := HX1.out.box.c0 (i := 4) (v := .int .i64 0) rfl rfl; have n4 := HX1.out.box.c1 (i := 4) (v := .int .i64 0) rfl rfl; have y4 := HX1.out.box.c2 (i := 4) (v := .int .i64 0) rfl rfl; have z5 := HX1.out.box.c0 (i := 5) (v := .int .i64 0) rfl rfl; have n5 := HX1.out.box.c1 (i := 5) (v := .int .i64 0) rfl rfl; have y5 := HX1.out.box.c2 (i := 5) (v := .int .i64 0) rfl rfl; have z6 := HX1.out.box.c0 (i := 6) (v := .slice none 0 0) rfl rfl; have n6 := HX1.out.box.c1 (i := 6) (v := .slice none 0 0) rfl rfl; have y6 := HX1.out.box.c2 (i := 6) (v := .slice none 0 0) rfl rfl; have fz := HX1.out.box.f0 rfl; have fy := HX1.out.box.f2 rfl; have g1 := HC.out p1 f _ HF.out HX1.out.box.up; have g2 := HC.out (p1 + 1) g _ HG.out HX1.out.box.up; have g3 := HC.out p4 k _ HK.out HX1.out.box.up)
    | (go_at_call 86; have _t := tF1; go_must (refine (rRfl_any b (some ⟨bb, oo, none⟩) n c _ _ (HS.out _ ((HX1.out.s2_0 (.slice A1 row.length c1)).s2_1 (.int .i64 (f.toNat : Int))).box.up) hn).mono ?_); rw [show ((p1 : Int) + 2) = ((p1 + 2 : Nat) : Int) from by omega, H3.out]; rintro e x3 ⟨rfl, rfl⟩; clear tF1)
    | (go_at_call 86; go_must (refine (rRfl_any b (some ⟨bb, oo, none⟩) n c _ _ (HS.out _ (((HX1.out.s2_0 (.slice A1 row.length c1)).s2_1 (.int .i64 (f.toNat : Int))).s2_3 (.int .i64 (t : Int))).box.up) hn).mono ?_); rw [H4.out]; rintro e x4 ⟨rfl, rfl⟩)
    | (go_at_call 20; go_must (refine (rKey_any ⟨row, (f.toNat : Int), [], (t : Int), (s : Int), (k.toNat : Int), []⟩ A1 row.length c1 none 0 0 none 0 0 _ ⟨(((((HX1.out.s2_0 (.slice A1 row.length c1)).s2_1 (.int .i64 (f.toNat : Int))).s2_3 (.int .i64 (t : Int))).s2_4 (.int .i64 (s : Int))).s2_5 (.int .i64 (k.toNat : Int))).rows.sl (i := 0) rfl, (Sl.none _), Sl.none _⟩).mono ?_); rw [HKE.out]; rintro e x5 hp; obtain ⟨A5, c5, rfl, hS5, hO5, hb5⟩ := hp.at_ (n := K.length) rfl rfl; have HX5 := Lib.hid ((((((HX1.out.s2_0 (.slice A1 row.length c1)).s2_1 (.int .i64 (f.toNat : Int))).s2_3 (.int .i64 (t : Int))).s2_4 (.int .i64 (s : Int))).s2_5 (.int .i64 (k.toNat : Int))).fresh hb5 hO5); have HS5 := Lib.hid hS5; clear hb5 hp hO5 hS5 g1 g2 g3; clear z0 y0 n0 z1 y1 n1 z2 y2 n2 z3 y3 n3 z4 y4 n4 z5 y5 n5 z6 y6 n6 fz fy; have z0 := HX5.out.box.c0 (i := 0) (v := .slice none 0 0) rfl rfl; have n0 := HX5.out.box.c1 (i := 0) (v := .slice none 0 0) rfl rfl; have y0 := HX5.out.box.c2 (i := 0) (v := .slice A1 row.length c1) rfl rfl; have z1 := HX5.out.box.c0 (i := 1) (v := .int .i64 0) rfl rfl; have n1 := HX5.out.box.c1 (i := 1) (v := .int .i64 0) rfl rfl; have y1 := HX5.out.box.c2 (i := 1) (v := .int .i64 (f.toNat : Int)) rfl rfl; have z2 := HX5.out.box.c0 (i := 2) (v := .slice none 0 0) rfl rfl; have n2 := HX5.out.box.c1 (i := 2) (v := .slice none 0 0) rfl rfl; have y2 := HX5.out.box.c2 (i := 2) (v := .slice none 0 0) rfl rfl; have z3 := HX5.out.box.c0 (i := 3) (v := .int .i64 0) rfl rfl; have n3 := HX5.out.box.c1 (i := 3) (v := .int .i64 0) rfl rfl; have y3 := HX5.out.box.c2 (i := 3) (v := .int .i64 (t : Int)) rfl rfl; have z4 := HX5.out.box.c0 (i := 4) (v := .int .i64 0) rfl rfl; have n4 := HX5.out.box.c1 (i := 4) (v := .int .i64 0) rfl rfl; have y4 := HX5.out.box.c2 (i := 4) (v := .int .i64 (s : Int)) rfl rfl; have z5 := HX5.out.box.c0 (i := 5) (v := .int .i64 0) rfl rfl; have n5 := HX5.out.box.c1 (i := 5) (v := .int .i64 0) rfl rfl; have y5 := HX5.out.box.c2 (i := 5) (v := .int .i64 (k.toNat : Int)) rfl rfl; have z6 := HX5.out.box.c0 (i := 6) (v := .slice none 0 0) rfl rfl; have n6 := HX5.out.box.c1 (i := 6) (v := .slice none 0 0) rfl rfl; have y6 := HX5.out.box.c2 (i := 6) (v := .slice none 0 0) rfl rfl; have fz := HX5.out.box.f0 rfl; have fy := HX5.out.box.f2 rfl)
    | (go_at_call 33; go_must (refine (rSame_any K b A5 (some ⟨bb, oo, none⟩) K.length c5 n c _ HS5.out.rb (HS.out _ HX5.out.box.up).rb).mono ?_); rw [HKB.out]; rintro e x6 ⟨rfl, rfl⟩))
  (try simp only [Exit.inBlock, Exit.then])
  have HR := Lib.hid ((HX5.out.fill7 rfl (.slice A1 row.length c1) (.int .i64 (f.toNat : Int)) (.slice none 0 0) (.int .i64 (t : Int)) (.int .i64 (s : Int)) (.int .i64 (k.toNat : Int)) (.slice none 0 0)))
  refine bodyPost_ret (results_box1 rfl _ _ w.heap.size _ rfl (HR.out.box.cells0 rfl) (by kernel_rfl) (by kernel_rfl)) rfl ?_
  exact ent_post_n (mk := fun v => .tuple #[v, .int .i64 0]) (rows_low (rows_pre HR.out.rows) (Nat.le_add_right _ _)) HR.out.box.up
end Go.Proofs.YtmigjipfomfacaaGreatDoor
namespace Go.Proofs.YtmigjipfomfacaaGreatDoor
open Go.RowKit
def RPost (b : List UInt8) (o : Option (Ent × Nat)) (w : World) : Ending → World → Prop := EntPost (fun v => .tuple #[v, .int .i64 (ParseKeyO b o).2]) (ParseKeyO b o).1 w
theorem keyE_ok {e : Ent} (h : checkE e = 0) : KeyE e = (keyE e, 0) := by unfold KeyE; rw [if_pos h]
theorem keyE_bad {e : Ent} (h : checkE e ≠ 0) : KeyE e = ([], checkE e) := by unfold KeyE; rw [if_neg h]
theorem rpost_ok {b : List UInt8} {E : Ent} {p : Nat} {w : World} (h1 : checkE E = 0) (h2 : keyE E = b) {f : FuncId} {args : Array Value} (h : Calls Tryz.prog f args w (EntPost (fun v => .tuple #[v, .int .i64 0]) E w)) : Calls Tryz.prog f args w (RPost b (some (E, p)) w) := by
  unfold RPost ParseKeyO
  simp only
  rw [if_pos ⟨h1, h2⟩]
  exact h
theorem rpost_no {b : List UInt8} {E : Ent} {p : Nat} {w : World} (hn : ¬ (checkE E = 0 ∧ keyE E = b)) {f : FuncId} {args : Array Value} (h : Calls Tryz.prog f args w (EntPost (fun v => .tuple #[v, .int .i64 27]) noEnt w)) : Calls Tryz.prog f args w (RPost b (some (E, p)) w) := by
  unfold RPost ParseKeyO
  simp only
  rw [if_neg hn]
  exact h
theorem not_end {b : List UInt8} {E : Ent} {p : Nat} (h : parseE b = some (E, p)) (hp : p ≠ b.length) : ¬ (checkE E = 0 ∧ keyE E = b) := by
  rintro ⟨h1, h2⟩
  have := parse_key (ok_of h1)
  rw [h2, h] at this
  injection this with this
  injection this with _ this
  exact hp this
theorem rparsekey_any (b : List UInt8) (A : Option Addr) (n c : Nat) (w : World) (hs : Sl w A n c b) (hn : n ≤ 140737488355000) :
    Calls Tryz.prog 63 #[.slice A n c] w (EntPost (fun v => .tuple #[v, .int .i64 (ParseKeyE b).2]) (ParseKeyE b).1 w) := by
  have hl := hs.len
  refine parse_cases b (C := fun o => parseE b = o → Calls Tryz.prog 63 #[.slice A n c] w (RPost b o w)) ?_ ?_ ?_ ?_ ?_ ?_ rfl
  · intro rw0 p1 er h0 he _; exact rp_N_f1a b A n c w rw0 p1 er hs hn h0 he
  · intro row p1 h0 h1 h2 _; exact rp_N_f1b b A n c w row p1 hs hn h0 (by omega) (by omega)
  · intro row p1 f g ql0 p2 er h0 h1 hf hg hg0 h2 he _; exact rp_P_f2a b A n c w row p1 f g ql0 p2 er hs hn h0 (by omega) hf hg hg0 h2 he
  · intro row p1 f g qual p2 h0 h1 hf hg hg0 h2 h3 h4 _; exact rp_P_f2b b A n c w row p1 f g qual p2 hs hn h0 (by omega) hf hg hg0 h2 (by omega) (by omega)
  · intro row p1 f g qual p2 h0 h1 hf hg hg0 h2 h3
    refine parseN_cases b row f.toNat qual (p2 + 1) (C := fun o => parseE b = o → Calls Tryz.prog 63 #[.slice A n c] w (RPost b o w)) ?_ ?_ ?_ ?_
    · intro t p3 er h3' he _; exact rp_P_f3 b A n c w row p1 f g qual p2 t p3 er hs hn h0 (by omega) hf hg hg0 h2 (by omega) h3' he
    · intro t p3 s p4 er h3' h4 he _; exact rp_P_f4a b A n c w row p1 f g qual p2 t p3 s p4 er hs hn h0 (by omega) hf hg hg0 h2 (by omega) h3' h4 he
    · intro t p3 s p4 h3' h4 h5 h6 _; exact rp_P_f4b b A n c w row p1 f g qual p2 t p3 s p4 hs hn h0 (by omega) hf hg hg0 h2 (by omega) h3' h4 (by omega) (by omega)
    · intro t p3 s p4 k h3' h4 h5 hk hp
      by_cases hpn : p4 + 1 = n
      · by_cases hc : checkE ⟨row, f.toNat, qual, t, s, k.toNat, []⟩ = 0
        · by_cases hb : keyE ⟨row, f.toNat, qual, t, s, k.toNat, []⟩ = b
          · exact rpost_ok hc hb (rp_P_okC b A n c w row p1 f g qual p2 t p3 s p4 k b hs hn h0 (by omega) hf hg hg0 h2 (by omega) h3' h4 hpn hk (by rw [keyE_ok hc, hb]) (by simp))
          · exact rpost_no (fun h => hb h.2) (rp_P_okB b A n c w row p1 f g qual p2 t p3 s p4 k _ hs hn h0 (by omega) hf hg hg0 h2 (by omega) h3' h4 hpn hk (keyE_ok hc) (by simpa using hb))
        · exact rpost_no (fun h => hc h.1) (rp_P_okA b A n c w row p1 f g qual p2 t p3 s p4 k _ _ hs hn h0 (by omega) hf hg hg0 h2 (by omega) h3' h4 hpn hk hc (keyE_bad hc))
      · exact rpost_no (not_end hp (by omega)) (rp_P_f4b b A n c w row p1 f g qual p2 t p3 s p4 hs hn h0 (by omega) hf hg hg0 h2 (by omega) h3' h4 (by omega) hpn)
  · intro row p1 f g h0 h1 hf hg hg0
    refine parseN_cases b row f.toNat [] (p1 + 2) (C := fun o => parseE b = o → Calls Tryz.prog 63 #[.slice A n c] w (RPost b o w)) ?_ ?_ ?_ ?_
    · intro t p3 er h3' he _; exact rp_N_f3 b A n c w row p1 f g t p3 er hs hn h0 (by omega) hf hg hg0 h3' he
    · intro t p3 s p4 er h3' h4 he _; exact rp_N_f4a b A n c w row p1 f g t p3 s p4 er hs hn h0 (by omega) hf hg hg0 h3' h4 he
    · intro t p3 s p4 h3' h4 h5 h6 _; exact rp_N_f4b b A n c w row p1 f g t p3 s p4 hs hn h0 (by omega) hf hg hg0 h3' h4 (by omega) (by omega)
    · intro t p3 s p4 k h3' h4 h5 hk hp
      by_cases hpn : p4 + 1 = n
      · by_cases hc : checkE ⟨row, f.toNat, [], t, s, k.toNat, []⟩ = 0
        · by_cases hb : keyE ⟨row, f.toNat, [], t, s, k.toNat, []⟩ = b
          · exact rpost_ok hc hb (rp_N_okC b A n c w row p1 f g t p3 s p4 k b hs hn h0 (by omega) hf hg hg0 h3' h4 hpn hk (by rw [keyE_ok hc, hb]) (by simp))
          · exact rpost_no (fun h => hb h.2) (rp_N_okB b A n c w row p1 f g t p3 s p4 k _ hs hn h0 (by omega) hf hg hg0 h3' h4 hpn hk (keyE_ok hc) (by simpa using hb))
        · exact rpost_no (fun h => hc h.1) (rp_N_okA b A n c w row p1 f g t p3 s p4 k _ _ hs hn h0 (by omega) hf hg hg0 h3' h4 hpn hk hc (keyE_bad hc))
      · exact rpost_no (not_end hp (by omega)) (rp_N_f4b b A n c w row p1 f g t p3 s p4 hs hn h0 (by omega) hf hg hg0 h3' h4 (by omega) hpn)
end Go.Proofs.YtmigjipfomfacaaGreatDoor
namespace Go.Proofs.YtmigjipfomfacaaGreatDoor
open Go.RowKit
abbrev FW (ro : Option Nat) : Fence := { Fence.wide with round := ro }
theorem rowsIn_wide {n : Nat} {P : Program} {row : String} {args : Array Value} {w : World} {R : Value → World → Prop} (h : Rows P row args w R) : RowsIn Fence.wide n P row args w R :=
  fun c cs _ => let ⟨v, w', r, s⟩ := h c cs; ⟨v, w', r, stepsIn_wide.2 s⟩
theorem callsIn_fw {ro : Option Nat} {n : Nat} {P : Program} {f : FuncId} {args : Array Value} {w : World} {R : Ending → World → Prop} (h : Calls P f args w R) : CallsIn (FW ro) n P f args w R :=
  (callsIn_wide (n := n)).2 h
section
variable {P : Program} {ro : Option Nat} {n : Nat} {o : Oper} {a : Act} {w : World} {K K' : Act → World → Prop} {Q : Exit → Act → World → Prop}
theorem upon_in {r : Result Next} (hK : ∀ a w, K a w → K' a w) (h : o.upon P a K Q r) : o.uponIn (FW ro) n P a K' Q r := by
  unfold Oper.upon at h
  split at h
  · exact hK _ _ h
  · exact hK _ _ h
  · exact hK _ _ h
  · refine ⟨(fun e => nomatch e), (callsIn_fw h).mono fun e w' h => ?_⟩
    cases e with
    | returned v => exact hK _ _ h
    | panicked chain => exact h
    | outgrown => exact h
  · exact ⟨(fun e => nomatch e), RowsIn.mono (rowsIn_wide h) fun v w' h => hK _ _ h⟩
  · exact h
  · exact h.elim
theorem wp_in (hd : ∀ c, o.op ≠ .defer c) (hK : ∀ a w, K a w → K' a w) (h : o.wp P a w K Q) : o.wpIn (FW ro) n P a w K' Q :=
  ⟨fun _ _ => trivial, by rw [Oper.semAt_plain _ _ _ hd]; exact upon_in hK h⟩
def noDef (l : List Oper) : Bool := l.all fun o => match o.op with
  | .defer _ => false
  | _ => true
theorem noDef_at {l : List Oper} (h : noDef l = true) (ho : o ∈ l) (c : Call) : o.op ≠ .defer c := fun e => by
  have h1 := List.all_eq_true.1 h o ho
  rw [e] at h1; cases h1
def qIn (F : Fence) (n : Nat) (P : Program) (ops : Array Oper) (Q : Exit → Act → World → Prop) (rest : List Oper) : Exit → Act → World → Prop
  | .normal, a, w => wpListIn F n P ops Q rest a w
  | .outgrown, _, _ => False
  | .exit id, a, w => Q (.exit id) a w
  | .goto l, a, w => Q (.goto l) a w
  | .ret, a, w => Q .ret a w
  | .panic c, a, w => Q (.panic c) a w
theorem upon_q {F : Fence} {ops : Array Oper} {rest : List Oper} {r : Result Next} (h : o.upon P a K (qIn F n P ops Q rest) r) : o.upon P a K Q r := by
  unfold Oper.upon at h ⊢
  split at h
  · exact h
  · exact h
  · exact h
  · refine Calls.mono h fun e w' h => ?_
    cases e with
    | returned v => exact h
    | panicked chain => exact h
    | outgrown => obtain ⟨_, _, h⟩ := h; exact h.elim
  · exact h
  · exact h
  · exact h.elim
theorem wlIn_one {ops : Array Oper} {rest : List Oper} (hd : noDef [o] = true) (h : wpList P ops (qIn (FW ro) n P ops Q rest) [o] a w) : wpListIn (FW ro) n P ops Q (o :: rest) a w := by
  unfold wpList at h
  unfold wpListIn
  split
  · rename_i hw
    rw [if_pos hw] at h
    rcases h with h | ⟨_, a', w', h⟩
    · exact wp_in (noDef_at hd (List.mem_cons_self ..)) (fun a w h => h) (upon_q h)
    · exact h.elim
  · rename_i hw
    rw [if_neg hw] at h
    exact ⟨(fun _ _ => trivial), h⟩
theorem wlIn_back {F : Fence} {ops : Array Oper} {rest : List Oper} (h : wpListIn F n P ops Q rest a w) : wpList P ops (qIn F n P ops Q rest) [] a w := h
theorem wpOpsIn_of {ops : Array Oper} (hQ : ∀ a w, ¬ Q .outgrown a w) (hd : noDef ops.toList = true) : ∀ (l : List Nat) (a : Act) (w : World), wpOps P ops Q l a w → wpOpsIn (FW ro) n P ops Q l a w
  | [], _, _, h => h
  | i :: l, a, w, h => by
    unfold wpOps at h
    unfold wpOpsIn
    cases ho : ops[i]? with
    | none => rw [ho] at h; exact wpOpsIn_of hQ hd l a w h
    | some o =>
      rw [ho] at h
      simp only [] at h ⊢
      split
      · rename_i hw
        rw [if_pos hw] at h
        rcases h with h | ⟨_, a', w', h⟩
        · exact wp_in (noDef_at hd (Array.mem_toList_iff.2 (Array.mem_of_getElem? ho))) (fun a w => wpOpsIn_of hQ hd l a w) h
        · exact (hQ _ _ h).elim
      · rename_i hw
        rw [if_neg hw] at h
        exact ⟨(fun _ _ => trivial), wpOpsIn_of hQ hd l _ _ h⟩
theorem lt_startIn {id : Nat} {l : List Oper} (F : List Nat) (hm : P.follows .mixedOrders = true) (hd : noDef l = true) (hQ : ∀ a w, ¬ Q .outgrown a w) (h : ∀ z, Below w.heap.size w z → ∃ S, wpAnyT P l.toArray Q F S l.length (Array.replicate l.length false) a z) : (Code.region id l.toArray true).wpIn (FW ro) n P Q a w := by
  obtain ⟨S, h⟩ := h w.drew (Below.refl _ _).drew
  refine wpIn_region_draw fun t => wpOpsIn_of hQ (by simpa using hd) _ _ _ ?_
  simp only [Region.schedule, hm, Bool.true_or, if_true]
  exact wpAny_sound _ t _ a _ (wpAny_of_T _ _ _ _ (by simpa using h))
end
section
variable {w x y : World} {os : List Ob} {i k : Nat} {r : Obj}
theorem OW.rawh (h : OW w os x) (hi : os[i]? = some (rawO k r)) : w.heap.size ≤ k ∧ x.heap[k]? = some r := by
  obtain ⟨k', r', h1, h2, h3, rfl⟩ := (h.get hi).some_ rfl
  injection h1 with h1; injection h1 with h1; injection h1 with h1
  subst h1; exact ⟨h2, h3⟩
theorem chg_putObj (x : World) (k : Nat) (o : Obj) : Chg (fun b => b = k) x (x.putObj k o) :=
  ⟨rfl, rfl, rfl, by rw [World.putObj_size]; exact Nat.le_refl _, fun j _ hne => World.putObj_heap_other hne⟩
theorem OW.putRaw (h : OW w os x) (hi : os[i]? = some (rawO k r)) (r' : Obj) : OW w (os.set i (rawO k r')) (x.putObj k r') := by
  obtain ⟨h1, h2⟩ := h.rawh hi
  exact h.upd hi (chg_putObj x k r') (fun b _ e => by subst e; rfl) (Ob.at_mkr rfl ⟨k, r', rfl, h1, World.putObj_heap_same (Array.getElem?_eq_some_iff.1 h2).1, rfl⟩) fun b hb => .inl hb
theorem OW.raw1 (x : World) (r : Obj) : OW x [rawO x.heap.size r] (x.alloc r) :=
  ⟨(Below.refl _ _).alloc (Nat.le_refl _) _, fun o ho => by
    obtain rfl := List.mem_singleton.1 ho
    exact Ob.at_mkr rfl ⟨x.heap.size, r, rfl, Nat.le_refl _, World.alloc_heap_new x r, rfl⟩, List.pairwise_singleton _ _⟩
theorem getE_app {α : Type} (os : List α) (a : α) (ds : List α) : (os ++ a :: ds)[os.length]? = some a := by
  rw [List.getElem?_append_right (Nat.le_refl _), Nat.sub_self]; rfl
theorem setE_app {α : Type} (os : List α) (a b : α) (ds : List α) : (os ++ a :: ds).set os.length b = os ++ b :: ds := by
  rw [List.set_append_right _ _ (Nat.le_refl _), Nat.sub_self]; rfl
theorem OW.putRawE {ds : List Ob} (h : OW w (os ++ rawO k r :: ds) x) (r' : Obj) : OW w (os ++ rawO k r' :: ds) (x.putObj k r') := by
  have := h.putRaw (getE_app os _ ds) r'
  rwa [setE_app] at this
theorem OW.rawE {ds : List Ob} (h : OW w (os ++ rawO k r :: ds) x) : x.heap[k]? = some r := (h.rawh (getE_app os _ ds)).2
theorem OW.dropE {ds : List Ob} {o : Ob} (h : OW w (os ++ o :: ds) x) : OW w (os ++ ds) x :=
  h.sub (List.Sublist.append (List.Sublist.refl _) (List.sublist_cons_self _ _))
end
section
variable {α : Type} {P : Program}
def IterOK (P : Program) (g : Nat) (lb : Array Value) (L : List α) (Itr : World → Prop) (Hand : α → Array Value → World → World → Prop) : Prop :=
  ∀ (l : Nat) (J Jx : List α → World → Prop) (W : World),
    (∀ pre z, J pre z → Itr z) → (∀ pre y z, J pre y → Below y.heap.size y z → J pre z) → (∀ pre y z, Jx pre y → Below y.heap.size y z → Jx pre z) →
    (∀ pre x W0 vs W1, pre ++ [x] <+: L → J pre W0 → Hand x vs W0 W1 → YieldAt Fence.wide 9 P l vs W1 fun e z =>
      (e = .returned (.bool true) ∧ J (pre ++ [x]) z) ∨ (e = .returned (.bool false) ∧ Jx (pre ++ [x]) z)) →
    J [] W → Calls P g (#[.func (.yield l) #[] #[]] ++ lb) W fun e z => (∃ v, e = .returned v) ∧ (J L z ∨ ∃ pre, pre <+: L ∧ Jx pre z)
def mkRec (fn : FuncId) (tmps : Array Value) (ps : Array Tmp) (assign body : Code) (D : Nat) (st : LoopState) (pe : Option Code) : Loop :=
  { state := st, pending := pe, fn, tmps, params := ps, assign, body, defers := D }
def rPost (w : World) (p : List Ob) (I : List α → List Ob → Prop) (Ix : Code → List α → List Ob → Prop) (xs : List α) : Exit → Act → World → Prop
  | .normal, _, z => ∃ os, I xs os ∧ OW w (os ++ p) z
  | .ret, _, z => ∃ os, Ix .ret xs os ∧ OW w (os ++ p) z
  | .exit id, _, z => ∃ os, Ix (.exit id) xs os ∧ OW w (os ++ p) z
  | .goto t, _, z => ∃ os, Ix (.goto t) xs os ∧ OW w (os ++ p) z
  | .panic _, _, _ => False
  | .outgrown, _, _ => False
def setP (tmps : Array Value) (ps : Array Tmp) (vs : Array Value) : Array Value := (ps.zip vs).foldl (fun t (p, v) => t.setIfInBounds p v) tmps
theorem setP1 (tmps : Array Value) (p : Tmp) (v : Value) : setP tmps #[p] #[v] = tmps.setIfInBounds p v := by simp [setP]
def RoundOK (P : Program) (w : World) (l : Nat) (assign body : Code) (I : List α → List Ob → Prop) (Ix : Code → List α → List Ob → Prop) (tmps : Array Value) (p1 p2 : List Ob) (pre : List α) (x : α) (W1 : World) (vs : Array Value) (ps : Array Tmp) : Prop :=
  assign.wpIn (FW (some l)) 9 P (Exit.then (fun a1 z => ∃ os2, OW w (os2 ++ p1) z ∧ ∀ z2, OW w (os2 ++ p2) z2 → body.wpIn (FW (some l)) 9 P (rPost w p2 I Ix (pre ++ [x])) a1 z2) fun _ _ _ => False)
    { tmps := setP tmps ps vs, defers := [] } W1
theorem range_core {F : Fence} {n : Nat} {w W1 : World} {g l : Nat} {lb : Array Value} {L : List α} {Itr : World → Prop} {Hand : α → Array Value → World → World → Prop} {ps : Array Tmp} {assign body : Code} {Q : Exit → Act → World → Prop} {a' : Act} {fn : FuncId} {tmps : Array Value} {D : Nat} {ds : List Ob}
    (hit : IterOK P g lb L Itr Hand) (hps : ∀ x vs y z, Hand x vs y z → vs.size = ps.size ∧ Below y.heap.size y z) (I : List α → List Ob → Prop) (Ix : Code → List α → List Ob → Prop)
    (hI : ∀ pre os es z, I pre os → OW w (os ++ es) z → Itr z) {os0 : List Ob} (h0 : I [] os0) (hx : OW w (os0 ++ rawO l (.loop (mkRec fn tmps ps assign body D .ready none)) :: ds) W1)
    (hround : ∀ pre x vs W0 W1 os, pre ++ [x] <+: L → I pre os → OW w (os ++ rawO l (.loop (mkRec fn tmps ps assign body D .ready none)) :: ds) W0 → Hand x vs W0 W1 →
      RoundOK P w l assign body I Ix tmps (rawO l (.loop (mkRec fn tmps ps assign body D .ready none)) :: ds) (rawO l (.loop (mkRec fn tmps ps assign body D .busy none)) :: ds) pre x W1 vs ps)
    (hdone : ∀ os z, I L os → OW w (os ++ ds) z → Q .normal a' z) (hstop : ∀ c pre os z, pre <+: L → Ix c pre os → OW w (os ++ ds) z → c.wpIn F n P Q a' z) :
    Calls P g (#[.func (.yield l) #[] #[]] ++ lb) W1 (rangePost F n P l Q a') := by
  refine (hit l (fun pre z => ∃ os, I pre os ∧ OW w (os ++ rawO l (.loop (mkRec fn tmps ps assign body D .ready none)) :: ds) z)
    (fun pre z => ∃ c os, Ix c pre os ∧ OW w (os ++ rawO l (.loop (mkRec fn tmps ps assign body D .done (some c))) :: ds) z) W1
    (fun pre z ⟨os, h1, h2⟩ => hI pre os _ z h1 h2) (fun pre y z ⟨os, h1, h2⟩ hb => ⟨os, h1, h2.later hb⟩) (fun pre y z ⟨c, os, h1, h2⟩ hb => ⟨c, os, h1, h2.later hb⟩) ?_ ⟨os0, h0, hx⟩).mono ?_
  · rintro pre x W0 vs Wb hpre ⟨os, hi, ho⟩ hh
    have hr := hround pre x vs W0 Wb os hpre hi ho hh
    have hrec : Wb.heap[l]? = some (.loop (mkRec fn tmps ps assign body D .ready none)) := (ho.later (hps x vs _ _ hh).2).rawE
    exact ⟨fn, _, assign, body, run_yield hrec (by rw [(hps x vs _ _ hh).1]; rfl), roundIn_of_wpIn (F := Fence.wide) trivial (wpIn_mono hr fun e a1 z hz => by
      cases e with
      | normal =>
        obtain ⟨os2, h1, h2⟩ := hz
        refine ⟨_, run_beginRound h1.rawE rfl, ?_⟩
        refine wpIn_mono (h2 _ (h1.putRawE _)) fun e a3 z3 h3 => ?_
        cases e with
        | normal =>
          obtain ⟨os3, h4, h5⟩ := h3
          exact ⟨_, _, run_endRound none h5.rawE, .inl ⟨rfl, os3, h4, h5.putRawE _⟩⟩
        | ret =>
          obtain ⟨os3, h4, h5⟩ := h3
          exact ⟨_, _, run_endRound (some .ret) h5.rawE, .inr ⟨rfl, .ret, os3, h4, h5.putRawE _⟩⟩
        | exit id =>
          obtain ⟨os3, h4, h5⟩ := h3
          exact ⟨_, _, run_endRound (some (.exit id)) h5.rawE, .inr ⟨rfl, .exit id, os3, h4, h5.putRawE _⟩⟩
        | goto t =>
          obtain ⟨os3, h4, h5⟩ := h3
          exact ⟨_, _, run_endRound (some (.goto t)) h5.rawE, .inr ⟨rfl, .goto t, os3, h4, h5.putRawE _⟩⟩
        | panic ch => exact h3.elim
        | outgrown => exact h3.elim
      | ret => exact hz.elim
      | exit id => exact hz.elim
      | goto t => exact hz.elim
      | panic ch => exact hz.elim
      | outgrown => exact hz.elim)⟩
  · rintro e z ⟨⟨v, rfl⟩, ⟨os, h1, h2⟩ | ⟨pre, hp, c, os, h1, h2⟩⟩
    · exact ⟨none, _, run_endLoop h2.rawE (fun e => nomatch e), hdone os _ h1 (h2.putRawE _).dropE⟩
    · exact ⟨some c, _, run_endLoop h2.rawE (fun e => nomatch e), hstop c pre os _ hp h1 (h2.putRawE _).dropE⟩
def markD (D : Nat) : Deferred := { target := .collected D, args := #[] }
def dfrO (D : Nat) : Ob := rawO D (.deferred (some []))
theorem wp_range {w x : World} {g : Operand} {gf : Nat} {lb : Array Value} {L : List α} {Itr : World → Prop} {Hand : α → Array Value → World → World → Prop} {ps : Array Tmp} {assign body : Code} {Q : Exit → Act → World → Prop} {a : Act}
    (hg : a.eval g = .func (.func gf) #[] lb) (eg : ∀ args w, (callFunc gf args).run P w = .ok (.enter gf args) w)
    (hit : IterOK P gf lb L Itr Hand) (hps : ∀ x vs y z, Hand x vs y z → vs.size = ps.size ∧ Below y.heap.size y z) (I : List α → List Ob → Prop) (Ix : Code → List α → List Ob → Prop)
    (hI : ∀ pre os es z, I pre os → OW w (os ++ es) z → Itr z) {os0 : List Ob} (h0 : I [] os0) (hx : OW w os0 x)
    (hround : ∀ (l : Nat) (p1 p2 : List Ob) pre xx vs W0 W1 os, (∃ r ds, p2 = rawO l (.loop r) :: ds) → pre ++ [xx] <+: L → I pre os → OW w (os ++ p1) W0 → Hand xx vs W0 W1 → RoundOK P w l assign body I Ix a.tmps p1 p2 pre xx W1 vs ps)
    (hdone : ∀ D os z, I L os → OW w (os ++ [dfrO D]) z → Q .normal { a with defers := markD D :: a.defers } z)
    (hstop : ∀ D c pre os z, pre <+: L → Ix c pre os → OW w (os ++ [dfrO D]) z → c.wp P Q { a with defers := markD D :: a.defers } z) : (Code.rangeFunc g ps assign body).wp P Q a x := by
  refine (wpIn_wide (n := 0)).1 (wpIn_rangeFunc fun fn _ => ?_)
  obtain ⟨W1, hW1⟩ : ∃ z, z = (x.alloc (.deferred (some []))).alloc (.loop (mkRec fn a.tmps ps assign body x.heap.size .ready none)) := ⟨_, rfl⟩
  have h2 : OW w (os0 ++ rawO (x.heap.size + 1) (.loop (mkRec fn a.tmps ps assign body x.heap.size .ready none)) :: [dfrO x.heap.size]) W1 := by
    rw [hW1]
    have h3 := (hx.app (OW.raw1 x (.deferred (some [])))).app (OW.raw1 _ (.loop (mkRec fn a.tmps ps assign body x.heap.size .ready none)))
    rw [World.size_alloc] at h3
    refine h3.perm ?_
    rw [List.append_assoc]
    exact List.Perm.append_left _ (List.Perm.swap _ _ _)
  refine ⟨x.heap.size + 1, [markD x.heap.size], W1, { target := .fn (.func gf) lb, args := #[.func (.yield (x.heap.size + 1)) #[] #[]] }, W1, gf, #[.func (.yield (x.heap.size + 1)) #[] #[]] ++ lb, W1, by rw [hW1]; exact run_enterLoop_outer _ _ _ _ _, ?_, fun _ _ => trivial, ?_, (fun e => nomatch e), callsIn_wide.2 ?_⟩
  · simp only [resolve, hg]
    simp [go_sem]
  · simp [invoke, go_sem, eg]
  · exact range_core hit hps I Ix hI h0 h2 (fun pre xx vs W0 W1 os h4 h5 h6 h7 => hround _ _ _ pre xx vs W0 W1 os ⟨_, _, rfl⟩ h4 h5 h6 h7) (fun os z h4 h5 => hdone _ os z h4 h5) fun c pre os z h4 h5 h6 => wpIn_wide.2 (hstop _ c pre os z h4 h5 h6)
theorem wpIn_range {w x : World} {l0 : Nat} {r0 : Loop} (hl0 : x.heap[l0]? = some (.loop r0)) {g : Operand} {gf : Nat} {lb : Array Value} {L : List α} {Itr : World → Prop} {Hand : α → Array Value → World → World → Prop} {ps : Array Tmp} {assign body : Code} {Q : Exit → Act → World → Prop} {a : Act}
    (hg : a.eval g = .func (.func gf) #[] lb) (eg : ∀ args w, (callFunc gf args).run P w = .ok (.enter gf args) w)
    (hit : IterOK P gf lb L Itr Hand) (hps : ∀ x vs y z, Hand x vs y z → vs.size = ps.size ∧ Below y.heap.size y z) (I : List α → List Ob → Prop) (Ix : Code → List α → List Ob → Prop)
    (hI : ∀ pre os es z, I pre os → OW w (os ++ es) z → Itr z) {os0 : List Ob} (h0 : I [] os0) (hx : OW w os0 x)
    (hround : ∀ (l : Nat) (p1 p2 : List Ob) pre xx vs W0 W1 os, (∃ r ds, p2 = rawO l (.loop r) :: ds) → pre ++ [xx] <+: L → I pre os → OW w (os ++ p1) W0 → Hand xx vs W0 W1 → RoundOK P w l assign body I Ix a.tmps p1 p2 pre xx W1 vs ps)
    (hdone : ∀ os z, I L os → OW w (os ++ []) z → Q .normal a z)
    (hstop : ∀ c pre os z, pre <+: L → Ix c pre os → OW w (os ++ []) z → c.wpIn (FW (some l0)) 9 P Q a z) : (Code.rangeFunc g ps assign body).wpIn (FW (some l0)) 9 P Q a x := by
  refine wpIn_rangeFunc fun fn _ => ?_
  obtain ⟨W1, hW1⟩ : ∃ z, z = x.alloc (.loop (mkRec fn a.tmps ps assign body r0.defers .ready none)) := ⟨_, rfl⟩
  have h2 : OW w (os0 ++ rawO x.heap.size (.loop (mkRec fn a.tmps ps assign body r0.defers .ready none)) :: []) W1 := by
    rw [hW1]; exact hx.app (OW.raw1 x (.loop (mkRec fn a.tmps ps assign body r0.defers .ready none)))
  refine ⟨x.heap.size, [], W1, { target := .fn (.func gf) lb, args := #[.func (.yield x.heap.size) #[] #[]] }, W1, gf, #[.func (.yield x.heap.size) #[] #[]] ++ lb, W1, by rw [hW1]; exact run_enterLoop_inner hl0 _ _ _ _ _, ?_, fun _ _ => trivial, ?_, (fun e => nomatch e), callsIn_fw ?_⟩
  · simp only [resolve, hg]
    simp [go_sem]
  · simp [invoke, go_sem, eg]
  · exact range_core hit hps I Ix hI h0 h2 (fun pre xx vs W0 W1 os h4 h5 h6 h7 => hround _ _ _ pre xx vs W0 W1 os ⟨_, _, rfl⟩ h4 h5 h6 h7) (fun os z h4 h5 => hdone os z h4 h5) fun c pre os z h4 h5 h6 => hstop c pre os z h4 h5 h6
def bodyQ (P : Program) (fn : Func) (R : Ending → World → Prop) : Exit → Act → World → Prop
  | .normal, a, w | .ret, a, w => LeavesInM Fence.wide 0 P fn a.tmps R a.defers .returning w
  | _, _, _ => False
theorem calls_marks {f : FuncId} {fn : Func} {c : Code} {args : Array Value} {w : World} {R : Ending → World → Prop} (hf : P.funcs[f]? = some fn) (hb : fn.body = some c)
    (h : c.wp P (bodyQ P fn R) { tmps := args ++ Array.replicate (fn.ntmps - args.size) undef, defers := [] } w) : Calls P f args w R :=
  (callsIn_wide (n := 0)).1 (callsIn_of_wp_marks hf hb trivial (wpIn_wide.2 (wp_mono h fun e a w hq => by
    cases e with
    | normal => exact hq
    | ret => exact hq
    | exit id => exact hq.elim
    | goto l => exact hq.elim
    | panic ch => exact hq.elim
    | outgrown => exact hq.elim)) rfl)
theorem results_cell1 {fn : Func} {p : Tmp} {ty : TypeId} (h : fn.results = #[.cell p ty]) (tmps : Array Value) (w : World) (g : Nat) (v : Value) (hp : tmps.getD p undef = .pointer (some ⟨g, 0, none⟩)) (hc : w.cell? ⟨g, 0, none⟩ = some v) (ha : ∀ w, (isAgg ty).run P w = .ok false w) : (results fn tmps).run P w = .ok v w := by
  have hp' : tmps[p]?.getD undef = .pointer (some ⟨g, 0, none⟩) := by simpa using hp
  simp [results, h, hp', asAddr, loadVar, Sem.run_bind, ha w]
  simp [go_sem, hc]
theorem leaves0 {fn : Func} {tmps : Array Value} {R : Ending → World → Prop} {v : Value} {z : World} (h : (results fn tmps).run P z = .ok v z) (hR : R (.returned v) z) : LeavesInM Fence.wide 0 P fn tmps R [] .returning z := ⟨v, h, hR⟩
theorem wl_cell1 {ops : Array Oper} {Q : Exit → Act → World → Prop} {rest : List Oper} {o : Oper} {a : Act} {x : World} (hgd : Region.wanted o (yielded ops a.tmps) = true) {t : TypeId} (p y : Operand) (ho : o.op = .store t p y) {g j : Nat} (hx : a.eval p = .pointer (some ⟨g, j, none⟩)) {u : Value} (hc : x.cell? ⟨g, j, none⟩ = some u) (hf : x.frozen? ⟨g, j, none⟩ = false) (v : Value) (hy : a.eval y = v) (ht : (P.info? t).map (·.size) = some 1) (h1 : v.oneCell' = true)
    (hK : wpList P ops Q rest (a.put o.dst undef) (x.setCell ⟨g, j, none⟩ v)) : wpList P ops Q (o :: rest) a x := by
  refine BigFrame.wpList_want hgd fun _ hk => ?_
  unfold Oper.wp execOp
  simp only [ho, hx, hy, Instr.storeAt, Instr.sureAddr, Sem.run_bind, Sem.run_pure, Result.andThen_ok, run_storeVar_one x g j t v (by rw [hc]; rfl) hf h1 ht]
  exact hk _ _ hK
structure RBox (w x1 : World) (g : Nat) (u : Value) : Prop where
  up : Below w.heap.size w x1
  lo : w.heap.size ≤ g
  hi : g < x1.heap.size
  cell : x1.cell? ⟨g, 0, none⟩ = some u
  fz : x1.frozen? ⟨g, 0, none⟩ = false
theorem RBox.of {w x1 : World} {g : Nat} {u : Value} (h : OW w [boxO g [u]] x1) : RBox w x1 g u := by
  obtain ⟨h1, h2, _, h4⟩ := h.box (i := 0) rfl
  exact ⟨h.up, h1, h2, h.cell (i := 0) (j := 0) rfl rfl, h4 0⟩
theorem RBox.cell' {w x1 z : World} {g : Nat} {u : Value} (h : RBox w x1 g u) (hz : Below x1.heap.size x1 z) : z.cell? ⟨g, 0, none⟩ = some u := (hz.cell (p := ⟨g, 0, none⟩) h.hi).trans h.cell
theorem RBox.fz' {w x1 z : World} {g : Nat} {u : Value} (h : RBox w x1 g u) (hz : Below x1.heap.size x1 z) : z.frozen? ⟨g, 0, none⟩ = false := (World.frozen?_of_block (hz.block g h.hi)).trans h.fz
theorem RBox.up' {w x1 z : World} {g : Nat} {u : Value} (h : RBox w x1 g u) (hz : Below x1.heap.size x1 z) (v : Value) : Below w.heap.size w (z.setCell ⟨g, 0, none⟩ v) :=
  (h.up.trans (hz.mono h.up.size)).setCell (p := ⟨g, 0, none⟩) h.lo v
theorem RBox.got {w x1 z : World} {g : Nat} {u : Value} (h : RBox w x1 g u) (hz : Below x1.heap.size x1 z) (v : Value) : (z.setCell ⟨g, 0, none⟩ v).cell? ⟨g, 0, none⟩ = some v := World.cell?_setCell_same _ _ _ (h.cell' hz)
end
end Go.Proofs.YtmigjipfomfacaaGreatDoor
namespace Go.Proofs.YtmigjipfomfacaaGreatDoor
open Go.RowKit
def fillIn (c N : Nat) (m : UInt8) (r : Obj) : Prop := ∃ cur T, r = .cells cur T (0, 0) ∧ c ≤ cur.size ∧ N ≤ c ∧ c ≤ maxLen ∧ ∀ j, j < N → cur[j]? = some (u8v m)
def fillO (g c N : Nat) (m : UInt8) : Ob := ⟨true, 0, c, .pointer (some ⟨g, 0, none⟩), N, [u8v m], some (fillIn c N m)⟩
theorem fillO_inj {g c N g' c' N' : Nat} {m m' : UInt8} (h : fillO g c N m = fillO g' c' N' m') : g = g' ∧ c = c' ∧ N = N' ∧ m = m' := by
  unfold fillO at h
  injection h with _ _ h1 h2 h3 h4 _
  injection h2 with h2; injection h2 with h2; injection h2 with h2
  injection h4 with h4
  unfold u8v at h4
  injection h4 with _ h4
  exact ⟨h2, h1, h3, UInt8.toNat_inj.1 (by omega)⟩
def Marked (ks : List Ob) (A : Option Addr) (n cap : Nat) (m : UInt8) : Prop := (A = none ∧ n = 0 ∧ cap = 0) ∨ ∃ g c N, A = some ⟨g, 0, none⟩ ∧ n ≤ N ∧ n ≤ cap ∧ cap ≤ c ∧ fillO g c N m ∈ ks
def LeM (ks ks' : List Ob) : Prop := ∀ A n cap m, Marked ks A n cap m → Marked ks' A n cap m
theorem LeM.refl (ks : List Ob) : LeM ks ks := fun _ _ _ _ h => h
theorem LeM.trans {a b c : List Ob} (h : LeM a b) (k : LeM b c) : LeM a c := fun A n cap m hm => k A n cap m (h A n cap m hm)
theorem LeM.sub {a b : List Ob} (h : ∀ o, o ∈ a → o ∈ b) : LeM a b := fun A n cap m hm => by
  rcases hm with hm | ⟨g, c, N, h1, h2, h3, h4, h5⟩
  · exact .inl hm
  · exact .inr ⟨g, c, N, h1, h2, h3, h4, h _ h5⟩
theorem Marked.sub {ks : List Ob} {A : Option Addr} {n n' cap : Nat} {m : UInt8} (h : Marked ks A n cap m) (hn : n' ≤ n) : Marked ks A n' cap m := by
  rcases h with ⟨h1, h2, h3⟩ | ⟨g, c, N, h1, h2, h3, h4, h5⟩
  · exact .inl ⟨h1, by omega, h3⟩
  · exact .inr ⟨g, c, N, h1, by omega, by omega, h4, h5⟩
section
variable {w x : World} {os ks : List Ob} {g c N i : Nat} {m : UInt8}
theorem OW.fill (h : OW w os x) (hm : fillO g c N m ∈ os) : ∃ r, w.heap.size ≤ g ∧ x.heap[g]? = some r ∧ fillIn c N m r := by
  obtain ⟨i, hi⟩ := List.getElem?_of_mem hm
  obtain ⟨k, r, h1, h2, h3, h4⟩ := (h.get hi).some_ rfl
  injection h1 with h1; injection h1 with h1; injection h1 with h1
  subst h1; exact ⟨r, h2, h3, h4⟩
theorem fillIn.cell {r : Obj} (h : fillIn c N m r) (hr : x.heap[g]? = some r) {j : Nat} (hj : j < N) : x.cell? ⟨g, j, none⟩ = some (u8v m) := by
  obtain ⟨cur, T, rfl, _, _, _, h4⟩ := h
  have := h4 j hj
  simp [World.cell?, hr, this]
theorem fillIn.there {r : Obj} (h : fillIn c N m r) (hr : x.heap[g]? = some r) {j : Nat} (hj : j < c) : (x.cell? ⟨g, j, none⟩).isSome = true ∧ x.frozen? ⟨g, j, none⟩ = false := by
  obtain ⟨cur, T, rfl, h1, _, _, _⟩ := h
  refine ⟨?_, ?_⟩
  · have : j < cur.size := by omega
    simp [World.cell?, hr, this]
  · simp [World.frozen?, hr]
theorem OW.marked {A : Option Addr} {n cap : Nat} (h : OW w os x) (hm : Marked os A n cap m) : Sl x A n cap (List.replicate n m) := by
  rcases hm with ⟨rfl, rfl, rfl⟩ | ⟨g, c, N, rfl, h1, h2, h3, h4⟩
  · exact Sl.none _
  · obtain ⟨r, h5, h6, h7⟩ := h.fill h4
    have hc : c ≤ maxLen := by obtain ⟨_, _, _, _, _, h8, _⟩ := h7; exact h8
    unfold maxLen at hc
    refine ⟨RB.mk' List.length_replicate fun _ => ⟨g, 0, rfl, (Array.getElem?_eq_some_iff.1 h6).1, fun j b hj => ?_⟩, h2, by omega, fun e => nomatch e⟩
    obtain ⟨hjl, rfl⟩ := List.getElem?_eq_some_iff.1 hj
    rw [List.length_replicate] at hjl
    rw [Nat.zero_add, List.getElem_replicate]
    exact h7.cell h6 (by omega)
theorem setCell_heap {cur : Array Value} {T : TypeId} {fr : Nat × Nat} (hg : x.heap[g]? = some (.cells cur T fr)) (j : Nat) (v : Value) : (x.setCell ⟨g, j, none⟩ v).heap[g]? = some (.cells (cur.setIfInBounds j v) T fr) := by
  unfold World.setCell
  have hlt := (Array.getElem?_eq_some_iff.1 hg).1
  have he := (Array.getElem?_eq_some_iff.1 hg).2
  simp [Array.getElem?_modify, hg]
theorem setCells_heap : ∀ (vs : List Value) (o : Nat) (x : World) (cur : Array Value) (T : TypeId) (fr : Nat × Nat), x.heap[g]? = some (.cells cur T fr) → ∃ cur', (x.setCells g o vs).heap[g]? = some (.cells cur' T fr) ∧ cur'.size = cur.size ∧
    (∀ j, j < o → cur'[j]? = cur[j]?) ∧ (∀ j, o + vs.length ≤ j → cur'[j]? = cur[j]?) ∧ ∀ j, j < vs.length → o + j < cur.size → cur'[o + j]? = vs[j]?
  | [], o, x, cur, T, fr, h => ⟨cur, h, rfl, fun _ _ => rfl, fun _ _ => rfl, fun j hj => absurd hj (Nat.not_lt_zero _)⟩
  | v :: vs, o, x, cur, T, fr, h => by
    obtain ⟨cur', h1, h2, h3, h4, h5⟩ := setCells_heap vs (o + 1) (x.setCell ⟨g, o, none⟩ v) _ T fr (setCell_heap h o v)
    refine ⟨cur', h1, by rw [h2]; simp, fun j hj => ?_, fun j hj => ?_, fun j hj hl => ?_⟩
    · rw [h3 j (by omega), Array.getElem?_setIfInBounds_ne (by omega)]
    · rw [List.length_cons] at hj
      rw [h4 j (by omega), Array.getElem?_setIfInBounds_ne (by omega)]
    · cases j with
      | zero =>
        rw [Nat.add_zero] at hl ⊢
        rw [h3 o (by omega)]
        simp [hl]
      | succ j =>
        rw [List.length_cons] at hj
        have := h5 j (by omega) (by simp; omega)
        rw [show o + (j + 1) = o + 1 + j from by omega, this]; rfl
theorem OW.fillSet {y : World} {r' : Obj} {c' N' : Nat} {m' : UInt8} (h : OW w os x) (hi : os[i]? = some (fillO g c N m)) (hc : Chg (fun b => b = g) x y) (hr : y.heap[g]? = some r') (hφ : fillIn c' N' m' r') : OW w (os.set i (fillO g c' N' m')) y := by
  obtain ⟨k, r0, h1, h2, h3, _⟩ := (h.get hi).some_ rfl
  injection h1 with h1; injection h1 with h1; injection h1 with h1
  subst h1
  exact h.upd hi hc (fun b _ e => by subst e; rfl) (Ob.at_mkr rfl ⟨g, r', rfl, h2, hr, hφ⟩) fun b hb => .inl hb
theorem fill1 {y : World} {e : TypeId} {v' : Value} {k : Nat} (hb : Below x.heap.size x y) (h : y.ownsRow x.heap.size e 1 v' k (u8s (List.replicate k m))) (hk : 0 < k) : ∃ g c', v' = .slice (some ⟨g, 0, none⟩) k c' ∧ k ≤ c' ∧ OW x [fillO g c' k m] y := by
  rcases h.2 with ⟨_, h0⟩ | ⟨g, cap, cur, rfl, h2, h3, h4, h5, h6, h7⟩
  · omega
  refine ⟨g, cap, rfl, h4, hb, fun o ho => ?_, List.pairwise_singleton _ _⟩
  obtain rfl := List.mem_singleton.1 ho
  refine Ob.at_mkr rfl ⟨g, _, rfl, h2, h3, cur, _, rfl, by omega, h4, h5, fun j hj => ?_⟩
  rw [Nat.mul_one] at h7
  have h8 : (cur.toList.take k)[j]? = (u8s (List.replicate k m))[j]? := by rw [h7]
  rw [List.getElem?_take_of_lt hj, u8s_at (show (List.replicate k m)[j]? = some m by simp [hj])] at h8
  simpa [u8v] using h8
theorem marked_new {k c' : Nat} {ks : List Ob} (hc : k ≤ c') : LeM ks (ks ++ [fillO g c' k m]) ∧ Marked (ks ++ [fillO g c' k m]) (some ⟨g, 0, none⟩) k c' m :=
  ⟨LeM.sub fun _ ho => List.mem_append_left _ ho, .inr ⟨g, c', k, rfl, Nat.le_refl _, hc, Nat.le_refl _, List.mem_append_right _ (List.mem_singleton.2 rfl)⟩⟩
theorem marked_more {ks : List Ob} {i c N N' : Nat} (hi : ks[i]? = some (fillO g c N m)) (hN : N ≤ N') : LeM ks (ks.set i (fillO g c N' m)) := fun A n cap m' hm => by
  rcases hm with hm | ⟨g', c', M, h1, h2, h3, h4, h5⟩
  · exact .inl hm
  · obtain ⟨j, hj⟩ := List.getElem?_of_mem h5
    have hil := (List.getElem?_eq_some_iff.1 hi).1
    by_cases hji : i = j
    · subst hji
      rw [hi] at hj
      injection hj with hj
      obtain ⟨rfl, rfl, rfl, rfl⟩ := fillO_inj hj
      exact .inr ⟨g, c, N', h1, by omega, h3, h4, List.mem_of_getElem? (List.getElem?_set_self hil)⟩
    · exact .inr ⟨g', c', M, h1, h2, h3, h4, List.mem_of_getElem? (by rw [List.getElem?_set_ne hji]; exact hj)⟩
theorem setE_mem {α : Type} {os ks : List α} {i : Nat} {b : α} : (os ++ ks).set (os.length + i) b = os ++ ks.set i b := by
  rw [List.set_append_right _ _ (by omega), Nat.add_sub_cancel_left]
end
section
variable {P : Program} {Q : Exit → Act → World → Prop} {K : Act → World → Prop} {o : Oper} {a : Act} {w x : World} {os ks : List Ob} {m : UInt8}
theorem wpo_appM {t e : TypeId} (s y : Operand) (ho : o.op = .call { callee := .builtin .append, args := #[s, y], argTypes := #[t, t] }) (hS : SliceOf P t e 1 1) (h : OW w (os ++ ks) x) {A : Option Addr} {n cap : Nat} (hm : Marked ks A n cap m) (hs : a.eval s = .slice A n cap)
    (A2 : Option Addr) (k c2 : Nat) (hy : a.eval y = .slice A2 k c2) (hr : RB x x.heap.size A2 k (List.replicate k m)) (hk : 0 < k) (hb : n + k ≤ 140737488355328)
    (hK : ∀ A' c' ks' z, OW w (os ++ ks') z → LeM ks ks' → Marked ks' A' (n + k) c' m → K (a.put o.dst (.slice A' (n + k) c')) z) : o.wp P a x K Q := by
  have hrd := hr
  obtain ⟨b2, o2, rfl, hb2, hc2⟩ := hr.2 hk
  have hone : ∀ u ∈ u8s (List.replicate k m), u.oneCell' = true := fun u hu => by
    obtain ⟨c, _, rfl⟩ := List.mem_map.1 hu; rfl
  have hul : (u8s (List.replicate k m)).length = k := by rw [u8s_length, List.length_replicate]
  rcases hm with ⟨rfl, rfl, rfl⟩ | ⟨g, c, N, rfl, h1, h2, h3, h4⟩
  · refine wp_append_reads x s y ho hS x.heap.size (.slice none 0 0) 0 [] hs (own_nil _ _ _ _) x.heap.size _ k c2 _ hy hrd hone (by unfold maxLen; omega) (by omega) (Nat.le_refl _) fun v' w' g1 g2 _ => ?_
    rw [List.nil_append, Nat.zero_add] at g1
    have hbl : Below x.heap.size x w' := below_grown_none g2
    obtain ⟨g', c', rfl, g4, g5⟩ := fill1 hbl g1 hk
    have hm := marked_new (g := g') (m := m) (ks := ks) g4
    have := hK (some ⟨g', 0, none⟩) c' (ks ++ [fillO g' c' k m]) w' (by rw [← List.append_assoc]; exact h.app g5) hm.1 (by rw [Nat.zero_add]; exact hm.2)
    rwa [Nat.zero_add] at this
  · obtain ⟨ht, ⟨i, z, hi, hz, hsz, hby, hzs⟩, _⟩ := hS
    obtain ⟨r, f1, f2, f3⟩ := h.fill (List.mem_append_right _ h4)
    by_cases hroom : n + k ≤ cap
    · have hrun := run_append_room_cells (P := P) x t o.type e i ht hi g 0 n cap ⟨b2, o2, none⟩ k c2 (u8s (List.replicate k m)) (by rw [hul, hsz, Nat.mul_one]) (fun j u hu => by rw [Addr.add_lit]; exact hc2 j u hu) hone hroom
        (fun j hj => by rw [hul] at hj; rw [hsz, Nat.mul_one, Nat.zero_add]; exact (f3.there f2 (by omega)).1) (fun j hj => by rw [hul] at hj; rw [hsz, Nat.mul_one, Nat.zero_add]; exact (f3.there f2 (by omega)).2)
      rw [hsz, Nat.mul_one, Nat.zero_add] at hrun
      obtain ⟨cur, T, rfl, q1, q2, q3, q4⟩ := f3
      obtain ⟨cur', p1, p2, p3, p4, p5⟩ := setCells_heap (u8s (List.replicate k m)) n x cur T (0, 0) f2
      obtain ⟨j, hj⟩ := List.getElem?_of_mem h4
      have hfl : fillIn c (max N (n + k)) m (.cells cur' T (0, 0)) := ⟨cur', T, rfl, by omega, by omega, q3, fun j hj => by
        by_cases g1 : j < n
        · rw [p3 j g1]; exact q4 j (by omega)
        · by_cases g2 : j < n + k
          · have h9 := p5 (j - n) (by rw [hul]; omega) (by omega)
            rw [show n + (j - n) = j from by omega] at h9
            rw [h9]; exact u8s_at (show (List.replicate k m)[j - n]? = some m by rw [List.getElem?_replicate, if_pos (by omega)])
          · rw [p4 j (by rw [hul]; omega)]; exact q4 j (by omega)⟩
      have hset := h.fillSet (i := os.length + j) (by rw [List.getElem?_append_right (by omega), Nat.add_sub_cancel_left]; exact hj) (setCells_chg g (u8s (List.replicate k m)) n x) p1 hfl
      rw [setE_mem] at hset
      have hle := marked_more (m := m) hj (Nat.le_max_left N (n + k))
      unfold Oper.wp execOp
      simp only [ho, resolve, invoke, builtin, Sem.run_bind, Sem.run_pure, Result.andThen_ok, List.map_toArray, List.map_cons, List.map_nil, hs, hy, hrun]
      exact hK (some ⟨g, 0, none⟩) cap _ _ hset hle (.inr ⟨g, c, max N (n + k), rfl, Nat.le_max_right _ _, hroom, h3, List.mem_of_getElem? (List.getElem?_set_self (List.getElem?_eq_some_iff.1 hj).1)⟩)
    · obtain ⟨v', w', hrun, g1, g2⟩ := run_append_arg_grows (P := P) x t o.type e i z 1 1 ht hi hz hsz hby hzs (by omega) ⟨g, 0, none⟩ n cap (u8s (List.replicate n m)) (by rw [u8s_length, List.length_replicate, Nat.mul_one]) (fun j u hu => by
          have hjl : j < n := by have h9 := (List.getElem?_eq_some_iff.1 hu).1; rwa [u8s_length, List.length_replicate] at h9
          rw [u8s_at (show (List.replicate n m)[j]? = some m by simp [hjl])] at hu
          injection hu with hu; subst hu
          rw [Addr.add_lit, Nat.zero_add]; exact f3.cell f2 (by omega))
        ⟨b2, o2, none⟩ k c2 (u8s (List.replicate k m)) (by rw [hul, Nat.mul_one]) (fun j u hu => by rw [Addr.add_lit]; exact hc2 j u hu) (by omega) (by unfold maxLen; omega) (by omega)
      have e1 : u8s (List.replicate n m) ++ u8s (List.replicate k m) = u8s (List.replicate (n + k) m) := by rw [← u8s_append, List.replicate_append_replicate]
      rw [e1] at g1
      obtain ⟨g', c', rfl, g4, g5⟩ := fill1 (below_grown_none g2) g1 (by omega)
      have hmn := marked_new (g := g') (m := m) (ks := ks) g4
      unfold Oper.wp execOp
      simp only [ho, resolve, invoke, builtin, Sem.run_bind, Sem.run_pure, Result.andThen_ok, List.map_toArray, List.map_cons, List.map_nil, hs, hy, hrun]
      exact hK _ c' _ w' (by rw [← List.append_assoc]; exact h.app g5) hmn.1 hmn.2
theorem wl_appM {ops : Array Oper} {rest : List Oper} {t e : TypeId} (hgd : Region.wanted o (yielded ops a.tmps) = true) (s y : Operand) (ho : o.op = .call { callee := .builtin .append, args := #[s, y], argTypes := #[t, t] }) (hS : SliceOf P t e 1 1) (h : OW w (os ++ ks) x) {A : Option Addr} {n cap : Nat} (hm : Marked ks A n cap m) (hs : a.eval s = .slice A n cap)
    (A2 : Option Addr) (k c2 : Nat) (hy : a.eval y = .slice A2 k c2) (hr : RB x x.heap.size A2 k (List.replicate k m)) (hk : 0 < k) (hb : n + k ≤ 140737488355328)
    (hK : ∀ A' c' ks' z, OW w (os ++ ks') z → LeM ks ks' → Marked ks' A' (n + k) c' m → wpList P ops Q rest (a.put o.dst (.slice A' (n + k) c')) z) : wpList P ops Q (o :: rest) a x :=
  BigFrame.wpList_want hgd fun _ hk' => wpo_appM s y ho hS h hm hs A2 k c2 hy hr hk hb fun A' c' ks' z h1 h2 h3 => hk' _ _ (hK A' c' ks' z h1 h2 h3)
theorem wl_storeM {ops : Array Oper} {rest : List Oper} (hgd : Region.wanted o (yielded ops a.tmps) = true) {t : TypeId} (p y : Operand) (ho : o.op = .store t p y) {g c j : Nat} (h : OW w (os ++ fillO g c j m :: ks) x) (hj : j < c) (hx : a.eval p = .pointer (some ⟨g, j, none⟩)) (hy : a.eval y = u8v m) (ht : (P.info? t).map (·.size) = some 1)
    (hK : ∀ z, OW w (os ++ fillO g c (j + 1) m :: ks) z → wpList P ops Q rest (a.put o.dst undef) z) : wpList P ops Q (o :: rest) a x := by
  obtain ⟨r, f1, f2, f3⟩ := h.fill (List.mem_append_right _ (List.mem_cons_self ..))
  have h5 := f3.there f2 hj
  obtain ⟨u, hu⟩ := Option.isSome_iff_exists.1 h5.1
  refine wl_cell1 hgd p y ho hx hu h5.2 (u8v m) hy ht rfl ?_
  obtain ⟨cur, T, rfl, q1, q2, q3, q4⟩ := f3
  refine hK _ ?_
  have := h.fillSet (i := os.length) (getE_app _ _ _) (Chg.setCell x ⟨g, j, none⟩ (u8v m)) (setCell_heap f2 j (u8v m)) (show fillIn c (j + 1) m _ from ⟨_, T, rfl, by rw [Array.size_setIfInBounds]; exact q1, by omega, q3, fun i hi => by
    by_cases e : i = j
    · subst e; simp [show i < cur.size by omega]
    · rw [Array.getElem?_setIfInBounds_ne (fun h => e h.symm)]; exact q4 i (by omega)⟩)
  rwa [setE_app] at this
end
def SlB (o : Ob) (A : Option Addr) (n cap : Nat) : Prop := ∀ (w x : World) (os : List Ob) (i : Nat), OW w os x → os[i]? = some o → ∀ m, ∃ o', OW w (os.set i o') x ∧ ((A = none ∧ n = 0 ∧ cap = 0) ∨ ∃ g c, A = some ⟨g, 0, none⟩ ∧ n ≤ cap ∧ cap ≤ c ∧ o' = fillO g c 0 m)
theorem set_self' {α : Type} {os : List α} {i : Nat} {a : α} (h : os[i]? = some a) : os.set i a = os := by
  refine List.ext_getElem? fun j => ?_
  by_cases e : i = j
  · subst e; rw [List.getElem?_set_self (List.getElem?_eq_some_iff.1 h).1, h]
  · rw [List.getElem?_set_ne e]
theorem slB_byt (T : TypeId) (A : Option Addr) (c : Nat) (l : List UInt8) : SlB (bytO T (A, c, l)) A l.length c := fun w x os i h hi m => by
  have h1 := h.byt hi
  rcases h1.2 with ⟨hv, h0⟩ | ⟨g, cap, cur, hv, h2, h3, h4, h5, h6, _⟩
  · injection hv with hv hv2 hv3
    exact ⟨_, by rw [set_self' hi]; exact h, .inl ⟨hv, h0, hv3⟩⟩
  · injection hv with hv hv2 hv3
    subst hv; subst hv3
    refine ⟨fillO g c 0 m, ?_, .inr ⟨g, c, rfl, h4, Nat.le_refl _, rfl⟩⟩
    exact h.upd hi (Chg.refl (fun _ => False) x) (fun _ _ e => e.elim) (Ob.at_mkr rfl ⟨g, _, rfl, h2, h3, cur, T, rfl, by omega, by omega, h5, fun j hj => absurd hj (Nat.not_lt_zero _)⟩) fun b hb => .inl hb
theorem slB_clip {A : Option Addr} {l : List UInt8} (hc : CAt A l) (hn : l.length ≤ 9223372036854775807) : SlB (clipO A l) A l.length l.length := fun w x os i h hi m => by
  rcases hc with ⟨rfl, rfl⟩ | ⟨g, rfl⟩
  · exact ⟨_, by rw [set_self' hi]; exact h, .inl ⟨rfl, rfl, rfl⟩⟩
  · obtain ⟨k, r, h1, h2, h3, cur, T, rfl, h4, _⟩ := (h.get (show os[i]? = some (phiO g (bytesIn l.length l)) from hi)).some_ rfl
    injection h1 with h1; injection h1 with h1; injection h1 with h1
    subst h1
    refine ⟨fillO g l.length 0 m, ?_, .inr ⟨g, l.length, rfl, Nat.le_refl _, Nat.le_refl _, rfl⟩⟩
    exact h.upd hi (Chg.refl (fun _ => False) x) (fun _ _ e => e.elim) (Ob.at_mkr rfl ⟨g, _, rfl, h2, h3, cur, T, rfl, h4, Nat.zero_le _, by unfold maxLen; exact hn, fun j hj => absurd hj (Nat.not_lt_zero _)⟩) fun b hb => .inl hb
section
variable {P : Program} {Q : Exit → Act → World → Prop} {F : List Nat} {S : World → Prop} {l : List Oper} {listed : Array Bool} {fuel : Nat} {a : Act} {w : World}
theorem lt_two (i j : Nat) {oi oj : Oper} (hi : l[i]? = some oi) (hj : l[j]? = some oj) (hr : Region.ready .any l.toArray listed = [i, j]) (wi : Region.wanted oi (yielded l.toArray a.tmps) = true) (wj : Region.wanted oj (yielded l.toArray a.tmps) = true)
    (h1 : oi.wp P a w (fun a' w' => (finB F (listed.setIfInBounds i true) = false → S w') ∧ wpAnyT P l.toArray Q F S fuel (listed.setIfInBounds i true) a' w') Q)
    (h2 : oj.wp P a w (fun a' w' => (finB F (listed.setIfInBounds j true) = false → S w') ∧ wpAnyT P l.toArray Q F S fuel (listed.setIfInBounds j true) a' w') Q) : wpAnyT P l.toArray Q F S (fuel + 1) listed a w := by
  refine ⟨fun h0 => ?_, fun k hk => ?_⟩
  · rw [hr] at h0; cases h0
  rw [hr] at hk
  have hk' : k = i ∨ k = j := by simpa using hk
  rcases hk' with rfl | rfl
  · unfold wpOp
    rw [lx_at hi]
    simp only [wi, if_true]
    exact .inl h1
  · unfold wpOp
    rw [lx_at hj]
    simp only [wj, if_true]
    exact .inl h2
end
end Go.Proofs.YtmigjipfomfacaaGreatDoor
namespace Go.Proofs.YtmigjipfomfacaaGreatDoor
open Go.RowKit
noncomputable def cntO {α : Type} (a : α) (l : List α) : Nat := @List.count α (@instBEqOfDecidableEq α (fun a b => Classical.propDecidable (a = b))) a l
noncomputable def cnt1 {α : Type} (a x : α) : Nat := cntO a [x]
theorem cntO_app {α : Type} (a : α) (l m : List α) : cntO a (l ++ m) = cntO a l + cntO a m := by
  letI : DecidableEq α := fun a b => Classical.propDecidable (a = b)
  exact List.count_append
theorem cntO_cons {α : Type} (a x : α) (l : List α) : cntO a (x :: l) = cnt1 a x + cntO a l := by
  unfold cnt1
  rw [← cntO_app]; rfl
theorem cntO_nil {α : Type} (a : α) : cntO a [] = 0 := by
  letI : DecidableEq α := fun a b => Classical.propDecidable (a = b)
  exact List.count_nil
theorem perm_of_cnt {α : Type} {l m : List α} (h : ∀ a, cntO a l = cntO a m) : l.Perm m := by
  letI : DecidableEq α := fun a b => Classical.propDecidable (a = b)
  exact List.perm_iff_count.2 fun a => h a
section
variable {P : Program} {Q : Exit → Act → World → Prop} {F : List Nat} {S : World → Prop} {l : List Oper} {listed : Array Bool} {fuel : Nat} {a : Act} {w : World}
end
end Go.Proofs.YtmigjipfomfacaaGreatDoor
namespace Go.Proofs.YtmigjipfomfacaaGreatDoor
open Go.RowKit
theorem results_row3 {P : Program} {fn : Func} {p t u v : Tmp} {ty : TypeId} (h : fn.results = #[.cell p ty, .tmp t, .tmp u, .tmp v]) (tmps : Array Value) (w : World) (g : Nat) (cs : List Value)
    (hp : tmps.getD p undef = .pointer (some ⟨g, 0, none⟩)) (hc : w.rangeAt g 0 cs)
    (ha : (P.underlying ty).map (fun d => match d with | .struct _ | .array _ _ => true | _ => false) = some true) (hi : (P.info? ty).map (·.size) = some cs.length) :
    (results fn tmps).run P w = .ok (.tuple #[.agg cs.toArray, tmps.getD t undef, tmps.getD u undef, tmps.getD v undef]) w := by
  have hp' : tmps[p]?.getD undef = .pointer (some ⟨g, 0, none⟩) := by simpa using hp
  have hc' : ∀ j v, cs.toArray[j]? = some v → w.cell? ⟨g, j, none⟩ = some v := fun j v hv => by have := hc j v (by simpa using hv); rwa [Nat.zero_add] at this
  simp [results, h, hp', asAddr, run_loadVar_at hc' ha (by simpa using hi)]
def REntP (b : List UInt8) (a : Nat) (key : List UInt8) (w : World) (r : Ending) (z : World) : Prop :=
  (rq1 b a key = none ∧ r = .returned (.tuple #[entV none 0 0 none 0 0 none 0 0 noEnt, .slice none 0 0, .int .i64 0, .bool false]) ∧ Below w.heap.size w z) ∨
  (∃ e k p A c B d D q KA kc, rq1 b a key = some (e, k, p) ∧ r = .returned (.tuple #[entV A e.row.length c B e.qual.length d D e.val.length q e, .slice KA k.length kc, .int .i64 (p : Nat), .bool true]) ∧
    OW w [bytO 5 (KA, kc, k), bytO 5 (A, c, e.row), bytO 5 (B, d, e.qual), bytO 5 (D, q, e.val)] z)
set_option maxRecDepth 100000 in
set_option maxHeartbeats 4000000 in
theorem rentry_any (b key : List UInt8) (A KA : Option Addr) (n c kl kc a : Nat) (w : World) (hn : n ≤ 1000000) (hkl : kl ≤ 1000000) (hs : Sl w A n c b) (hk : Sl w KA kl kc key) :
    Calls Tryz.prog 37 #[.slice A n c, .int .i64 (a : Int), .slice KA kl kc] w (REntP b a key w) := by
  have HS : Hid (∀ z, Below w.heap.size w z → Sl z A n c b) := Lib.hid fun z hz => hs.later hz
  have HK : Hid (∀ z, Below w.heap.size w z → Sl z KA kl kc key) := Lib.hid fun z hz => hk.later hz
  have HL : Hid (b.length = n) := Lib.hid hs.rb.len
  have HKL : Hid (key.length = kl) := Lib.hid hk.rb.len
  have hkcap := hk.cap
  have HX := Lib.hid (OW.nil w)
  clear hs hk
  have hno : Hid (∀ z, rq1 b a key = none → Below w.heap.size w z → REntP b a key w (.returned (.tuple #[.agg [.slice none 0 0, .int .i64 0, .slice none 0 0, .int .i64 0, .int .i64 0, .int .i64 0, .slice none 0 0].toArray, .slice none 0 0, .int .i64 0, .bool false])) z) := Lib.hid fun z h1 h2 => .inl ⟨h1, rfl, h2⟩
  obtain ⟨u, p1, e1, hR1⟩ : ∃ u p1 e1, readU b (a : Nat) = (u, p1, e1) := ⟨_, _, _, rfl⟩
  have R1 := Lib.hid hR1
  clear hR1
  go_enter Tryz.func37, Tryz.ntmps37
  go_upto_region 3 with (first
    | (refine wl_alloc rfl rfl [.slice none 0 0, .int .i64 0, .slice none 0 0, .int .i64 0, .int .i64 0, .int .i64 0, .slice none 0 0] (.inl (by kernel_rfl)) HX.out ?_; intro g6 x1 hz _; have HX1 := Lib.hid hz; clear hz HX)
    | (refine wl_alloc rfl rfl [.slice none 0 0, .int .i64 0, .slice none 0 0, .int .i64 0, .int .i64 0, .int .i64 0, .slice none 0 0] (.inl (by kernel_rfl)) HX1.out ?_; intro g10 x2 hz _; have HX2 := Lib.hid hz; clear hz HX1)
    | (refine wl_put rfl (.tmp 10) (.tmp 18) rfl HX2.out 1 rfl rfl [.slice none 0 0, .int .i64 0, .slice none 0 0, .int .i64 0, .int .i64 0, .int .i64 0, .slice none 0 0] rfl rfl (by kernel_rfl) (by simp [Value.oneCell']) ?_; intro x3 hz _; have HY : Hid (OW w [boxO g6 [.slice none 0 0, .int .i64 0, .slice none 0 0, .int .i64 0, .int .i64 0, .int .i64 0, .slice none 0 0], boxO g10 [.slice none 0 0, .int .i64 0, .slice none 0 0, .int .i64 0, .int .i64 0, .int .i64 0, .slice none 0 0]] x3) := Lib.hid hz; clear hz HX2)
    | (go_at_call 61; go_must (refine (rRu_any b A n c a _ (by omega) (HS.out _ HY.out.up).rb).mono ?_); rw [R1.out]; rintro r w1 ⟨rfl, rfl⟩))
  by_cases he1 : e1 = 0
  case neg =>
    have HD1 : ((e1 : Int) != 0) = true := bne_iff_ne.2 (by omega)
    have HE := Lib.hid he1
    clear he1
    go_wp2_with (first
      | (refine wpList_load_row7 rfl 46 (.tmp 10) rfl rfl (HY.out.range (i := 1) rfl) ent_row5 ?_)
      | (refine wl_put rfl (.tmp 6) (.tmp 35) rfl HY.out 0 rfl rfl [.slice none 0 0, .int .i64 0, .slice none 0 0, .int .i64 0, .int .i64 0, .int .i64 0, .slice none 0 0] rfl rfl (by kernel_rfl) (by simp [Value.oneCell']) ?_; intro x4 hz _; have HZ := Lib.hid hz; clear hz))
    refine bodyPost_ret (results_row3 rfl _ _ g6 [.slice none 0 0, .int .i64 0, .slice none 0 0, .int .i64 0, .int .i64 0, .int .i64 0, .slice none 0 0] rfl (HZ.out.range (i := 0) rfl) (by kernel_rfl) (by kernel_rfl)) rfl ?_
    exact hno.out _ (rq1_a R1.out HE.out) HZ.out.up
  have HD1 : ((e1 : Int) != 0) = false := by rw [he1]; rfl
  have HE1 := Lib.hid he1
  have hu64 : u < 18446744073709551616 := by have h1 := readU_val b (a : Nat); rw [R1.out] at h1; exact h1
  clear he1
  by_cases hu : kl < u
  case pos =>
    have hd2 : decide ((u : Int) > (kl : Int)) = true := decide_eq_true (by omega)
    go_wp2_with (first
      | (refine wpList_load_row7 rfl 46 (.tmp 10) rfl rfl (HY.out.range (i := 1) rfl) ent_row5 ?_)
      | (refine wl_put rfl (.tmp 6) (.tmp 35) rfl HY.out 0 rfl rfl [.slice none 0 0, .int .i64 0, .slice none 0 0, .int .i64 0, .int .i64 0, .int .i64 0, .slice none 0 0] rfl rfl (by kernel_rfl) (by simp [Value.oneCell']) ?_; intro x4 hz _; have HZ := Lib.hid hz; clear hz))
    refine bodyPost_ret (results_row3 rfl _ _ g6 [.slice none 0 0, .int .i64 0, .slice none 0 0, .int .i64 0, .int .i64 0, .int .i64 0, .slice none 0 0] rfl (HZ.out.range (i := 0) rfl) (by kernel_rfl) (by kernel_rfl)) rfl ?_
    exact hno.out _ (rq1_b R1.out (by rw [HKL.out]; exact hu)) HZ.out.up
  have hd2 : decide ((u : Int) > (kl : Int)) = false := decide_eq_false (by omega)
  obtain ⟨k2, p2, e2, hR2⟩ : ∃ k2 p2 e2, readBy b (p1 : Nat) (n : Nat) = (k2, p2, e2) := ⟨_, _, _, rfl⟩
  have R2 := Lib.hid hR2
  obtain ⟨k2n, hk2n⟩ : ∃ z, z = k2.length := ⟨_, rfl⟩
  have HK2 := Lib.hid hk2n.symm
  have R1' : Hid (readU b (a : Nat) = (u, p1, 0)) := Lib.hid (by rw [← HE1.out]; exact R1.out)
  have R2L : Hid (readBy b (p1 : Nat) (b.length : Nat) = (k2, p2, e2)) := Lib.hid (by rw [HL.out]; exact R2.out)
  have hk2b : k2n ≤ 1000000 := by
    have h1 := readBy_le5 b (p1 : Int) (n : Int)
    rw [R2.out] at h1
    have h1 : k2.length ≤ b.length := h1
    have := HL.out
    omega
  clear hR2 hk2n
  go_upto_region 6 with (first
    | (go_at_call 62; go_must (refine (rRby_any b A n c p1 n _ (HS.out _ HY.out.up) (by omega) (by omega)).mono ?_); rw [R2.out]; rintro r x4 hp; obtain ⟨A3, c3, rfl, hs3, ho, hb⟩ := hp.at_ HK2.out rfl rfl; have HY1 := Lib.hid (HY.out.app (OW.byt1 hb ho)); clear hp ho hb hs3 HY))
  by_cases he2 : e2 = 0
  case neg =>
    have HD2 : ((e2 : Int) != 0) = true := bne_iff_ne.2 (by omega)
    have HE := Lib.hid he2
    clear he2
    go_wp2_with (first
      | (refine wpList_load_row7 rfl 46 (.tmp 10) rfl rfl (HY1.out.range (i := 1) rfl) ent_row5 ?_)
      | (refine wl_put rfl (.tmp 6) (.tmp 47) rfl HY1.out 0 rfl rfl [.slice none 0 0, .int .i64 0, .slice none 0 0, .int .i64 0, .int .i64 0, .int .i64 0, .slice none 0 0] rfl rfl (by kernel_rfl) (by simp [Value.oneCell']) ?_; intro x5 hz _; have HZ := Lib.hid hz; clear hz))
    refine bodyPost_ret (results_row3 rfl _ _ g6 [.slice none 0 0, .int .i64 0, .slice none 0 0, .int .i64 0, .int .i64 0, .int .i64 0, .slice none 0 0] rfl (HZ.out.range (i := 0) rfl) (by kernel_rfl) (by kernel_rfl)) rfl ?_
    exact hno.out _ (rq1_c R1'.out (by rw [HKL.out]; omega) R2L.out HE.out) HZ.out.up
  have HD2 : ((e2 : Int) != 0) = false := by rw [he2]; rfl
  have R2' : Hid (readBy b (p1 : Nat) (b.length : Nat) = (k2, p2, 0)) := Lib.hid (by rw [R2L.out, he2])
  clear he2
  obtain ⟨vv, p3, e3, hR3⟩ : ∃ vv p3 e3, readBy b (p2 : Nat) (n : Nat) = (vv, p3, e3) := ⟨_, _, _, rfl⟩
  have R3 := Lib.hid hR3
  have R3L : Hid (readBy b (p2 : Nat) (b.length : Nat) = (vv, p3, e3)) := Lib.hid (by rw [HL.out]; exact R3.out)
  obtain ⟨vn, hvn⟩ : ∃ z, z = vv.length := ⟨_, rfl⟩
  have HVN := Lib.hid hvn.symm
  clear hR3 hvn
  go_upto_region 9 with (first
    | (go_at_call 62; go_must (refine (rRby_any b A n c p2 n _ (HS.out _ HY1.out.up) (by omega) (by omega)).mono ?_); rw [R3.out]; rintro r x5 hp; obtain ⟨A4, c4, rfl, hs4, ho, hb⟩ := hp.at_ HVN.out rfl rfl; have HY2 := Lib.hid (HY1.out.app (OW.byt1 hb ho)); clear hp ho hb hs4 HY1))
  by_cases he3 : e3 = 0
  case neg =>
    have HD3 : ((e3 : Int) != 0) = true := bne_iff_ne.2 (by omega)
    have HE := Lib.hid he3
    clear he3
    go_wp2_with (first
      | (refine wpList_load_row7 rfl 46 (.tmp 10) rfl rfl (HY2.out.range (i := 1) rfl) ent_row5 ?_)
      | (refine wl_put rfl (.tmp 6) (.tmp 59) rfl HY2.out 0 rfl rfl [.slice none 0 0, .int .i64 0, .slice none 0 0, .int .i64 0, .int .i64 0, .int .i64 0, .slice none 0 0] rfl rfl (by kernel_rfl) (by simp [Value.oneCell']) ?_; intro x6 hz _; have HZ := Lib.hid hz; clear hz))
    refine bodyPost_ret (results_row3 rfl _ _ g6 [.slice none 0 0, .int .i64 0, .slice none 0 0, .int .i64 0, .int .i64 0, .int .i64 0, .slice none 0 0] rfl (HZ.out.range (i := 0) rfl) (by kernel_rfl) (by kernel_rfl)) rfl ?_
    exact hno.out _ (rq1_d R1'.out (by rw [HKL.out]; omega) R2'.out R3L.out HE.out) HZ.out.up
  have HD3 : ((e3 : Int) != 0) = false := by rw [he3]; rfl
  have R3' : Hid (readBy b (p2 : Nat) (b.length : Nat) = (vv, p3, 0)) := Lib.hid (by rw [R3L.out, he3])
  clear he3
  obtain ⟨K1, hK1⟩ : ∃ z, z = key.take u := ⟨_, rfl⟩
  obtain ⟨K, hK⟩ : ∃ z, z = K1 ++ k2 := ⟨_, rfl⟩
  have hk1n : K1.length = u := by rw [hK1, List.length_take]; have := HKL.out; omega
  have hkn : K.length = u + k2n := by rw [hK, List.length_append, hk1n, HK2.out]
  obtain ⟨pe, pf, hP⟩ : ∃ pe pf, ParseKeyE K = (pe, pf) := ⟨_, _, rfl⟩
  have HP := Lib.hid hP
  have HKE : Hid (K = key.take u ++ k2) := Lib.hid (by rw [hK, hK1])
  have HK0 := Lib.hid hK.symm
  have HKN := Lib.hid hkn
  have HK1N := Lib.hid hk1n
  have HSK : Hid (∀ z, Below w.heap.size w z → Sl z KA u kc K1) := Lib.hid fun z hz => by rw [hK1]; exact (HK.out z hz).take (by omega)
  clear hP hK1 hK hk1n hkn
  have HYN := Lib.hid (HY2.out.nilB 5)
  clear HY2
  have i1 : (0 : Int) ≤ (u : Int) := by omega
  have i2 : (u : Int) ≤ (kc : Int) := by omega
  have i3 : u ≤ kc := by omega
  have tk1 : True := trivial
  go_upto_region 15 with (first
    | (at_builtin; have _t := tk1; go_must (refine wl_appB rfl (.tmp 60) (.tmp 63) rfl Tryz.u8s' HYN.out 4 (n := 0) rfl rfl rfl _ _ u _ K1 rfl (HSK.out _ HYN.out.up).rb (by omega) ?_); intro A5 c5 x6 hz; rw [Nat.zero_add]; have HY3 : Hid (OW w [boxO g6 [.slice none 0 0, .int .i64 0, .slice none 0 0, .int .i64 0, .int .i64 0, .int .i64 0, .slice none 0 0], boxO g10 [.slice none 0 0, .int .i64 0, .slice none 0 0, .int .i64 0, .int .i64 0, .int .i64 0, .slice none 0 0], bytO 5 (A3, c3, k2), bytO 5 (A4, c4, vv), bytO 5 (A5, c5, K1)] x6) := Lib.hid hz; clear hz tk1 HYN)
    | (at_builtin; go_must (refine wl_appB rfl (.tmp 65) (.tmp 66) rfl Tryz.u8s' HY3.out 4 rfl HK1N.out rfl _ _ k2n _ k2 rfl (HY3.out.sl (i := 2) rfl HK2.out).rb (by omega) ?_); intro A6 c6 x7 hz; have HY4 : Hid (OW w [boxO g6 [.slice none 0 0, .int .i64 0, .slice none 0 0, .int .i64 0, .int .i64 0, .int .i64 0, .slice none 0 0], boxO g10 [.slice none 0 0, .int .i64 0, .slice none 0 0, .int .i64 0, .int .i64 0, .int .i64 0, .slice none 0 0], bytO 5 (A3, c3, k2), bytO 5 (A4, c4, vv), bytO 5 (A6, c6, K)] x7) := Lib.hid (by rw [← HK0.out]; exact hz); clear hz HY3)
    | (go_at_call 63; go_must (refine (rparsekey_any K A6 (u + k2n) c6 _ (HY4.out.sl (i := 4) rfl HKN.out) (by omega)).mono ?_); rw [HP.out]; rintro r x8 ⟨A7, c7, B7, d7, D7, q7, rfl, hr, hb⟩; have HY5 := Lib.hid (HY4.out.app (OW.rows1 hb hr)); clear hr hb HY4)
    | (refine wl_alloc rfl rfl [.slice none 0 0, .int .i64 0, .slice none 0 0, .int .i64 0, .int .i64 0, .int .i64 0, .slice none 0 0] (.inl (by kernel_rfl)) HY5.out ?_; intro g17 x9 hz _; have HY6 := Lib.hid hz; clear hz HY5)
    | (refine wl_put rfl (.tmp 17) (.tmp 71) rfl HY6.out 8 rfl rfl [.slice A7 pe.row.length c7, .int .i64 pe.fam, .slice B7 pe.qual.length d7, .int .i64 pe.ts, .int .i64 pe.seq, .int .i64 pe.kind, .slice D7 pe.val.length q7] rfl rfl (by kernel_rfl) (by simp [Value.oneCell']) ?_; intro x10 hz _; have HY7 : Hid (OW w [boxO g6 [.slice none 0 0, .int .i64 0, .slice none 0 0, .int .i64 0, .int .i64 0, .int .i64 0, .slice none 0 0], boxO g10 [.slice none 0 0, .int .i64 0, .slice none 0 0, .int .i64 0, .int .i64 0, .int .i64 0, .slice none 0 0], bytO 5 (A3, c3, k2), bytO 5 (A4, c4, vv), bytO 5 (A6, c6, K), bytO 5 (A7, c7, pe.row), bytO 5 (B7, d7, pe.qual), bytO 5 (D7, q7, pe.val), boxO g17 [.slice A7 pe.row.length c7, .int .i64 pe.fam, .slice B7 pe.qual.length d7, .int .i64 pe.ts, .int .i64 pe.seq, .int .i64 pe.kind, .slice D7 pe.val.length q7]] x10) := Lib.hid hz; clear hz HY6))
  by_cases he4 : pf = 0
  case neg =>
    have HD4 : (pf != 0) = true := bne_iff_ne.2 he4
    have HE := Lib.hid he4
    clear he4
    go_wp2_with (first
      | (refine wpList_load_row7 rfl 46 (.tmp 10) rfl rfl (HY7.out.range (i := 1) rfl) ent_row5 ?_)
      | (refine wl_put rfl (.tmp 6) (.tmp 75) rfl HY7.out 0 rfl rfl [.slice none 0 0, .int .i64 0, .slice none 0 0, .int .i64 0, .int .i64 0, .int .i64 0, .slice none 0 0] rfl rfl (by kernel_rfl) (by simp [Value.oneCell']) ?_; intro x11 hz _; have HZ := Lib.hid hz; clear hz))
    refine bodyPost_ret (results_row3 rfl _ _ g6 [.slice none 0 0, .int .i64 0, .slice none 0 0, .int .i64 0, .int .i64 0, .int .i64 0, .slice none 0 0] rfl (HZ.out.range (i := 0) rfl) (by kernel_rfl) (by kernel_rfl)) rfl ?_
    exact hno.out _ (rq1_e R1'.out (by rw [HKL.out]; omega) R2'.out R3'.out (by rw [← HKE.out]; exact HP.out) HE.out) HZ.out.up
  have HD4 : (pf != 0) = false := by rw [he4]; rfl
  have HOK : Hid (rq1 b a key = some ({ pe with val := vv }, K, p3)) := Lib.hid (by
    rw [HKE.out]
    exact rq1_ok R1'.out (by rw [HKL.out]; omega) R2'.out R3'.out (by rw [← HKE.out, HP.out, he4]))
  clear he4
  go_wp2_with (first
    | (refine wl_put1 rfl (.tmp 77) (.tmp 76) rfl HY7.out 8 rfl 6 rfl (by show 6 < 7; decide) (.slice A4 vn c4) rfl (by kernel_rfl) rfl ?_; intro x11 hz _; have HY8 : Hid (OW w [boxO g6 [.slice none 0 0, .int .i64 0, .slice none 0 0, .int .i64 0, .int .i64 0, .int .i64 0, .slice none 0 0], boxO g10 [.slice none 0 0, .int .i64 0, .slice none 0 0, .int .i64 0, .int .i64 0, .int .i64 0, .slice none 0 0], bytO 5 (A3, c3, k2), bytO 5 (A4, c4, vv), bytO 5 (A6, c6, K), bytO 5 (A7, c7, pe.row), bytO 5 (B7, d7, pe.qual), bytO 5 (D7, q7, pe.val), boxO g17 [.slice A7 pe.row.length c7, .int .i64 pe.fam, .slice B7 pe.qual.length d7, .int .i64 pe.ts, .int .i64 pe.seq, .int .i64 pe.kind, .slice A4 vn c4]] x11) := Lib.hid hz; clear hz HY7)
    | (refine wpList_load_row7 rfl 46 (.tmp 17) rfl rfl (HY8.out.range (i := 8) rfl) ent_row5 ?_)
    | (refine wl_put rfl (.tmp 6) (.tmp 78) rfl HY8.out 0 rfl rfl [.slice A7 pe.row.length c7, .int .i64 pe.fam, .slice B7 pe.qual.length d7, .int .i64 pe.ts, .int .i64 pe.seq, .int .i64 pe.kind, .slice A4 vn c4] rfl rfl (by kernel_rfl) (by simp [Value.oneCell']) ?_; intro x12 hz _; have HZ := Lib.hid hz; clear hz))
  refine bodyPost_ret (results_row3 rfl _ _ g6 [.slice A7 pe.row.length c7, .int .i64 pe.fam, .slice B7 pe.qual.length d7, .int .i64 pe.ts, .int .i64 pe.seq, .int .i64 pe.kind, .slice A4 vn c4] rfl (HZ.out.range (i := 0) rfl) (by kernel_rfl) (by kernel_rfl)) rfl ?_
  refine .inr ⟨{ pe with val := vv }, K, p3, A7, c7, B7, d7, A4, c4, A6, c6, HOK.out, ?_, ?_⟩
  · rw [HKN.out]
    show _ = Ending.returned (.tuple #[entV A7 pe.row.length c7 B7 pe.qual.length d7 A4 vv.length c4 _, _, _, _])
    rw [HVN.out]
    rfl
  · have h := HZ.out
    have h := (((((h.erase 0).erase 0).erase 0).erase 5).erase 4)
    have h2 : OW w [bytO 5 (A4, c4, vv), bytO 5 (A6, c6, K), bytO 5 (A7, c7, pe.row), bytO 5 (B7, d7, pe.qual)] _ := h
    exact h2.perm (by refine perm_of_cnt fun a => ?_; (simp only [cntO_cons, cntO_nil]) <;> omega)
theorem r5num_any (l : List UInt8) (A : Option Addr) (n c k : Nat) (w : World) (hs : Sl w A n c l) (hn : n ≤ 1000000) (hk : k + 4 ≤ n) :
    Calls Tryz.prog 35 #[.slice A n c, .int .i64 (k : Int)] w fun e z => e = .returned (.int .i64 (numF l k : Nat)) ∧ Below w.heap.size w z := by
  have HX := Lib.hid (Below.refl w.heap.size w)
  have HL : Hid (l.length = n) := Lib.hid hs.rb.len
  obtain ⟨b1, o1, _, rfl, hbl, _, _⟩ := hs.rb.at_ (show 0 < n by omega)
  have HCE : Hid (∀ i, i < 4 → ∀ z, Below w.heap.size w z → z.cell? ⟨b1, o1 + (k + i), none⟩ = some (.int .u8 ((l[k + i]?.getD 0).toNat : Int))) := Lib.hid fun i hi z hz =>
    (hs.later hz).rb.cell (k := k + i) (by rw [List.getElem?_eq_getElem (by have := HL.out; omega)]; rfl)
  have hb : ∀ i, (l[k + i]?.getD 0).toNat < 256 := fun i => (l[k + i]?.getD 0).toNat_lt
  have hk1 : k ≤ 1000000 := by omega
  have b0 := hb 0
  have b1' := hb 1
  have b2 := hb 2
  have b3 := hb 3
  have HN : Hid (((l[k]?.getD 0).toNat * 256 + (l[k + 1]?.getD 0).toNat) * 256 * 256 + (l[k + 2]?.getD 0).toNat * 256 + (l[k + 3]?.getD 0).toNat = numF l k) := Lib.hid (by unfold numF numB; omega)
  clear hs hb
  have c0 := HCE.out 0 (by omega) _ HX.out
  have c1 := HCE.out 1 (by omega) _ HX.out
  have c2 := HCE.out 2 (by omega) _ HX.out
  have c3 := HCE.out 3 (by omega) _ HX.out
  rw [Nat.add_zero] at b0 c0
  generalize (l[k]?.getD 0).toNat = v0 at *
  generalize (l[k + 1]?.getD 0).toNat = v1 at *
  generalize (l[k + 2]?.getD 0).toNat = v2 at *
  generalize (l[k + 3]?.getD 0).toNat = v3 at *
  have s1 : IntKind.i64.wrap ((k : Int) + 1) = (k : Int) + 1 := i64_sum (by omega) (by omega)
  have s2 : IntKind.i64.wrap ((k : Int) + 2) = (k : Int) + 2 := i64_sum (by omega) (by omega)
  have s3 : IntKind.i64.wrap ((k : Int) + 3) = (k : Int) + 3 := i64_sum (by omega) (by omega)
  have j1 : (0 : Int) ≤ (k : Int) + 1 := by omega
  have j2 : (0 : Int) ≤ (k : Int) + 2 := by omega
  have j3 : (0 : Int) ≤ (k : Int) + 3 := by omega
  have t1 : ((k : Int) + 1).toNat = k + 1 := by omega
  have t2 : ((k : Int) + 2).toNat = k + 2 := by omega
  have t3 : ((k : Int) + 3).toNat = k + 3 := by omega
  have u0 : IntKind.i64.wrap (v0 : Int) = (v0 : Int) := i64_sum (by omega) (by omega)
  have u1 : IntKind.i64.wrap (v1 : Int) = (v1 : Int) := i64_sum (by omega) (by omega)
  have u2 : IntKind.i64.wrap (v2 : Int) = (v2 : Int) := i64_sum (by omega) (by omega)
  have u3 : IntKind.i64.wrap (v3 : Int) = (v3 : Int) := i64_sum (by omega) (by omega)
  have x0 : IntKind.i64.wrap ((v0 : Int) * 256) = (v0 : Int) * 256 := i64_sum (by omega) (by omega)
  have x1 : IntKind.i64.wrap ((v0 : Int) * 256 + (v1 : Int)) = (v0 : Int) * 256 + (v1 : Int) := i64_sum (by omega) (by omega)
  have x2 : IntKind.i64.wrap (((v0 : Int) * 256 + (v1 : Int)) * 256) = ((v0 : Int) * 256 + (v1 : Int)) * 256 := i64_sum (by omega) (by omega)
  have x3 : IntKind.i64.wrap (((v0 : Int) * 256 + (v1 : Int)) * 256 + (v2 : Int)) = ((v0 : Int) * 256 + (v1 : Int)) * 256 + (v2 : Int) := i64_sum (by omega) (by omega)
  have x4 : IntKind.i64.wrap ((((v0 : Int) * 256 + (v1 : Int)) * 256 + (v2 : Int)) * 256) = (((v0 : Int) * 256 + (v1 : Int)) * 256 + (v2 : Int)) * 256 := i64_sum (by omega) (by omega)
  have x5 : IntKind.i64.wrap ((((v0 : Int) * 256 + (v1 : Int)) * 256 + (v2 : Int)) * 256 + (v3 : Int)) = (((v0 : Int) * 256 + (v1 : Int)) * 256 + (v2 : Int)) * 256 + (v3 : Int) := i64_sum (by omega) (by omega)
  have i1 : (0 : Int) ≤ (k : Int) := by omega
  have i2 : (k : Int) < (n : Int) := by omega
  have i3 : (k : Int) + 1 < (n : Int) := by omega
  have i4 : (k : Int) + 2 < (n : Int) := by omega
  have i5 : (k : Int) + 3 < (n : Int) := by omega
  go_enter Tryz.func35, Tryz.ntmps35
  go_upto_region 1 with fail
  go_quiet (fail)
  go_wp2_with fail
  go_ret
  refine ⟨ret_int ?_, below_drewN (Below.refl _ _)⟩
  have := HN.out
  omega
end Go.Proofs.YtmigjipfomfacaaGreatDoor
namespace Go.Proofs.YtmigjipfomfacaaGreatDoor
open Go.RowKit
set_option maxRecDepth 100000 in
set_option maxHeartbeats 4000000 in
theorem rlay_any (R : Nat) (L : List Ent) (A : Option Addr) (n c : Nat) (w : World) (hes : Ens w A n L) (hn : n ≤ 500000) (hR : 1 ≤ R ∧ R ≤ 16) (hok : ∀ l, l ∈ L → checkE l = 0) (hal : ∀ k e, L[k]? = some e → alikeB R (runB R (L.take k)) (keyE e) < (keyE e).length) :
    Calls Tryz.prog 52 #[.int .i64 (R : Int), .slice A n c] w (BytesPost 5 (layB R L) w) := by
  have HLE := Lib.hid hes.len
  have HES : Hid (∀ z, Below w.heap.size w z → Ens z A n L) := Lib.hid fun z hz => hes.later hz
  have HOK := Lib.hid hok
  have HAA := Lib.hid hal
  obtain ⟨hR1, hR2⟩ := hR
  clear hes hok hal
  by_cases h0 : n = 0
  case pos =>
    have HP : Hid (layB R L = []) := Lib.hid (by unfold layB; rw [if_pos (List.eq_nil_of_length_eq_zero (by rw [HLE.out, h0]))])
    subst h0
    go_enter Tryz.func52, Tryz.ntmps52
    go_wp2_with fail
    go_ret
    rw [HP.out]
    exact bytes_post (n := 0) (own_nil _ _ _ _) (Below.refl _ _)
  have hd : ((n : Int) == 0) = false := beq_eq_false_iff_ne.2 (by omega)
  have HX0 : Hid (OW w [bytO 5 (none, 0, []), bytO 5 (none, 0, []), bytO 5 (none, 0, [])] w) := Lib.hid ((((OW.nil w).nilB 5).nilB 5).nilB 5)
  have r0 : ((R : Int) == 0) = false := beq_eq_false_iff_ne.2 (by omega)
  have r1 : ¬ R = 0 := by omega
  go_enter Tryz.func52, Tryz.ntmps52
  go_wp2_with fail
  go_loopw [5, 6, 7, 8, 11] (fun bv pv lv iv _ wr => ∃ (k bl pl kl : Nat) (Ab : Option Addr) (cb : Nat) (Ap : Option Addr) (cp : Nat) (Al : Option Addr) (cl : Nat), k ≤ n ∧ bl ≤ 5200 * k ∧ pl ≤ 4 * k ∧ kl ≤ 1048 ∧ iv = .int .i64 k ∧ bv = .slice Ab bl cb ∧ pv = .slice Ap pl cp ∧ lv = .slice Al kl cl ∧ Hid ((runB R (L.take k)).body.length = bl) ∧ Hid (((runB R (L.take k)).places.flatMap four4).length = pl) ∧ Hid ((runB R (L.take k)).key.length = kl) ∧ Hid (OW w [bytO 5 (Ab, cb, (runB R (L.take k)).body), bytO 5 (Ap, cp, (runB R (L.take k)).places.flatMap four4), bytO 5 (Al, cl, (runB R (L.take k)).key)] wr)) (fun _ _ _ iv _ _ => n - (intOf iv).toNat)
  case atStart => exact ⟨0, 0, 0, 0, none, 0, none, 0, none, 0, Nat.zero_le _, Nat.zero_le _, Nat.zero_le _, Nat.zero_le _, rfl, rfl, rfl, rfl, Lib.hid rfl, Lib.hid rfl, Lib.hid rfl, HX0⟩
  case round =>
    clear HX0
    obtain ⟨k, bl, pl, kl, Ab, cb, Ap, cp, Al, cl, hk, hbl, hpl, hkl, rfl, rfl, rfl, rfl, HB, HP, HK, HX⟩ := hrel
    obtain ⟨s, hs⟩ : ∃ z, z = runB R (L.take k) := ⟨_, rfl⟩
    rw [← hs] at HB HP HK HX
    have HN : Hid (s.n = k) := Lib.hid (by rw [hs, runB_n, List.length_take]; have := HLE.out; omega)
    have HS := Lib.hid hs
    clear hs
    by_cases hlt : k < n
    case pos =>
      have hdk : decide ((k : Int) < (n : Int)) = true := decide_eq_true (by omega)
      obtain ⟨b, o, Ar, ec, B, d, D, q, e, rfl, hbl2, hek, hrg, hen⟩ := (HES.out w (Below.refl _ _)).at_ hlt
      have HRG : Hid (∀ z, Below w.heap.size w z → z.rangeAt b (o + k * 7) [.slice Ar e.row.length ec, .int .i64 e.fam, .slice B e.qual.length d, .int .i64 e.ts, .int .i64 e.seq, .int .i64 e.kind, .slice D e.val.length q]) := Lib.hid fun z hz j v hj => (hz.cell (p := ⟨b, _, none⟩) hbl2).trans (hrg j v hj)
      have HVC : Hid (∀ z, Below w.heap.size w z → z.cell? ⟨b, o + k * 7 + 6, none⟩ = some (.slice D e.val.length q)) := Lib.hid fun z hz => (HRG.out z hz) 6 _ rfl
      have HEN : Hid (∀ z, Below w.heap.size w z → En z Ar e.row.length ec B e.qual.length d D e.val.length q e) := Lib.hid fun z hz => hen.later hz
      have hck := HOK.out e (List.mem_of_getElem? hek)
      have HKE0 : Hid (KeyE e = (keyE e, 0)) := Lib.hid (by unfold KeyE; rw [if_pos hck])
      obtain ⟨kb, hkb⟩ : ∃ z, z = keyE e := ⟨_, rfl⟩
      obtain ⟨kn, hkn⟩ : ∃ z, z = kb.length := ⟨_, rfl⟩
      have hknb : kn ≤ 1048 := by rw [hkn, hkb]; exact keyE_len (ok_of hck)
      have hvb : e.val.length ≤ 4096 := (ok_of hck).val.1
      obtain ⟨al, hal⟩ : ∃ z, z = alikeB R s kb := ⟨_, rfl⟩
      obtain ⟨sh, hsh⟩ : ∃ z, z = shareN s.key kb := ⟨_, rfl⟩
      have halk : al < kn := by have h9 := HAA.out k e hek; rw [hal, hkn, hkb, HS.out]; exact h9
      have HKB := Lib.hid hkb.symm
      have HKE : Hid (KeyE e = (kb, 0)) := Lib.hid (by rw [hkb]; exact HKE0.out)
      have HKN := Lib.hid hkn.symm
      have HAL := Lib.hid hal
      have HSH := Lib.hid hsh.symm
      have HTK : Hid (runB R (L.take (k + 1)) = stepB R s kb e.val) := Lib.hid (by rw [runB_take R L hek, ← HS.out, hkb])
      have i1 : (0 : Int) ≤ (k : Int) := by omega
      have i2 : (k : Int) < (n : Int) := by omega
      clear hek hrg hen hck hkb hkn hal hsh
      go_upto_if 35 with (first
        | (refine wpList_load_at rfl 46 (.tmp 24) rfl rfl (HRG.out _ HX.out.up) ent_row5 ?_)
        | (go_at_call 20; go_must (refine (rKey_any e Ar _ ec B _ d D _ q _ (HEN.out _ HX.out.up)).mono ?_); rw [HKE.out]; rintro r y1 hp; obtain ⟨Ak, ck, rfl, _, ho, hb⟩ := hp.at_ HKN.out rfl; have HY := Lib.hid (HX.out.addF9 (OW.byt1 hb ho)); clear hp ho hb HX)
        | (go_at_call 49; go_must (refine (rshared_any s.key kb Al Ak kl cl kn ck _ (by omega) (HY.out.sl (i := 3) rfl HK.out).rb (HY.out.sl (i := 0) rfl HKN.out).rb).mono ?_); rw [HSH.out]; rintro r y2 ⟨rfl, hb⟩; have HZ := Lib.hid (HY.out.later hb); clear hb HY))
      go_cut [6, 11] (fun pv nv wx => ∃ (pl2 : Nat) (Ap2 : Option Addr) (cp2 : Nat), pl2 ≤ 4 * (k + 1) ∧ pv = .slice Ap2 pl2 cp2 ∧ nv = .int .i64 (al : Int) ∧ Hid (((placesB R s).flatMap four4).length = pl2) ∧ Hid (OW w [bytO 5 (Ak, ck, kb), bytO 5 (Ab, cb, s.body), bytO 5 (Ap2, cp2, (placesB R s).flatMap four4), bytO 5 (Al, cl, s.key)] wx))
      case first =>
        by_cases hf : k % R = 0
        · have e1 : ((k : Int).tmod (R : Int)) = 0 := by rw [← Int.ofNat_tmod, hf]; rfl
          have e2 : ((k : Int) % (R : Int)) = 0 := by rw [← Int.natCast_emod, hf]; rfl
          have HA0 : Hid (al = 0) := Lib.hid (by rw [HAL.out]; unfold alikeB; rw [HN.out, if_pos hf])
          have HP2 : Hid ((placesB R s).flatMap four4 = s.places.flatMap four4 ++ four4 bl) := Lib.hid (by unfold placesB; rw [HN.out, if_pos hf, HB.out, List.flatMap_append]; simp)
          clear hf
          go_wp2_with (first
            | (go_at_call 78; go_must (refine (rfour_any bl _ (by omega)).mono ?_); rintro r y3 hp; obtain ⟨A4, c4, rfl, _, ho, hb⟩ := hp.at_ (n := 4) rfl; have HF := Lib.hid (HZ.out.addF9 (OW.byt1 hb ho)); clear hp ho hb HZ)
            | (at_builtin; go_must (refine wl_appB rfl (.tmp 36) (.tmp 39) rfl Tryz.u8s' HF.out 3 rfl HP.out rfl _ _ 4 _ (four4 bl) rfl (HF.out.sl (i := 0) rfl rfl).rb (by omega) ?_); intro A5 c5 y4 hz; have HG : Hid (OW w [bytO 5 (A4, c4, four4 bl), bytO 5 (Ak, ck, kb), bytO 5 (Ab, cb, s.body), bytO 5 (A5, c5, s.places.flatMap four4 ++ four4 bl), bytO 5 (Al, cl, s.key)] y4) := Lib.hid hz; clear hz HF))
          go_meet
          refine ⟨pl + 4, A5, c5, by omega, rfl, by rw [HA0.out]; rfl, Lib.hid (by rw [HP2.out, List.length_append, HP.out]; rfl), Lib.hid ?_⟩
          rw [HP2.out]
          exact HG.out.sub ((List.Sublist.refl _).cons _)
        · have e1 : ¬ ((k : Int).tmod (R : Int)) = 0 := by rw [← Int.ofNat_tmod]; omega
          have e3 : (((k : Int).tmod (R : Int)) == 0) = false := beq_eq_false_iff_ne.2 e1
          have e2 : ¬ ((k : Int) % (R : Int)) = 0 := by rw [← Int.natCast_emod]; omega
          have e4 : (((k : Int) % (R : Int)) == 0) = false := beq_eq_false_iff_ne.2 e2
          have HA0 : Hid (al = sh) := Lib.hid (by rw [HAL.out, ← HSH.out]; unfold alikeB; rw [HN.out, if_neg hf])
          have HP2 : Hid (placesB R s = s.places) := Lib.hid (by unfold placesB; rw [HN.out, if_neg hf])
          clear hf
          go_wp2_with fail
          go_meet
          refine ⟨pl, Ap, cp, by omega, rfl, by rw [HA0.out], Lib.hid (by rw [HP2.out]; exact HP.out), Lib.hid ?_⟩
          rw [HP2.out]
          exact HZ.out
      clear HZ
      obtain ⟨pl2, Ap2, cp2, hpl2, rfl, rfl, HP2, HX⟩ := hcut
      obtain ⟨w4, rfl⟩ : ∃ z : World, z = wc := ⟨_, rfl⟩
      obtain ⟨U, hU⟩ : ∃ z, z = uintB al := ⟨_, rfl⟩
      obtain ⟨un, hun⟩ : ∃ z, z = U.length := ⟨_, rfl⟩
      have hun2 : un ≤ 10 := by rw [hun, hU]; exact uintB_le10 (by omega)
      obtain ⟨kd, hkd⟩ : ∃ z, z = kb.drop al := ⟨_, rfl⟩
      have hkdl : kd.length = kn - al := by rw [hkd, List.length_drop, HKN.out]
      obtain ⟨V, hV⟩ : ∃ z, z = uintB kd.length ++ kd := ⟨_, rfl⟩
      obtain ⟨vn, hvn⟩ : ∃ z, z = V.length := ⟨_, rfl⟩
      have hvn2 : vn ≤ 1058 := by rw [hvn, hV, List.length_append]; have := uintB_le10 (n := kd.length) (by omega); omega
      obtain ⟨W, hW⟩ : ∃ z, z = uintB e.val.length ++ e.val := ⟨_, rfl⟩
      obtain ⟨wn, hwn⟩ : ∃ z, z = W.length := ⟨_, rfl⟩
      have hwn2 : wn ≤ 4106 := by rw [hwn, hW, List.length_append]; have := uintB_le10 (n := e.val.length) (by omega); omega
      have HU := Lib.hid hU.symm
      have HUN := Lib.hid hun.symm
      have HKD := Lib.hid hkd
      have HV := Lib.hid hV.symm
      have HVN := Lib.hid hvn.symm
      have HW := Lib.hid hW.symm
      have HWN := Lib.hid hwn.symm
      have HVB : Hid (e.val.length ≤ 140737488355318) := Lib.hid (by omega)
      obtain ⟨vl, hvl⟩ : ∃ z, z = e.val.length := ⟨_, rfl⟩
      have HEV : Hid (∀ z, Below w.heap.size w z → RB z z.heap.size D vl e.val) := Lib.hid fun z hz => by rw [hvl]; exact (HEN.out z hz).val.rb
      have HVC2 : Hid (∀ z, Below w.heap.size w z → z.cell? ⟨b, o + k * 7 + 6, none⟩ = some (.slice D vl q)) := Lib.hid fun z hz => by rw [hvl]; exact HVC.out z hz
      have HSK : Hid (Sl w4 Ak kn ck kb) := Lib.hid (HX.out.sl (i := 0) rfl HKN.out)
      have hkc := HSK.out.cap
      have hkp : 0 < kn := by have := keyE_pos e; rw [HKB.out, HKN.out] at this; exact this
      obtain ⟨gk, cpk, hv, _⟩ := own_form (HX.out.row (i := 0) rfl) (by show 0 < kb.length; have := HKN.out; omega)
      injection hv with hv _ hcp
      subst hv
      subst hcp
      have HKDL := Lib.hid hkdl
      have HSD : Hid (∀ z, Sl z (some ⟨gk, 0, none⟩) kn ck kb → Sl z (some ⟨gk, al, none⟩) (kn - al) (ck - al) kd) := Lib.hid fun z h => by
        have h1 := h.drop (k := al) (by omega) (by omega)
        rw [← HKD.out, Option.map_some, show (⟨gk, 0, none⟩ : Addr).add al = ⟨gk, al, none⟩ from by simp [Addr.add]; omega] at h1
        exact h1
      have hvlb : vl ≤ 4096 := by omega
      have j1 : (0 : Int) ≤ (al : Int) := by omega
      have j2 : (al : Int) ≤ (kn : Int) := by omega
      have j3 : (kn : Int) ≤ (ck : Int) := by omega
      have HSZ : Hid (un + vn + wn ≤ 5200) := Lib.hid (by omega)
      have hblb : bl ≤ 2600000000 := by omega
      clear hU hun hkd hkdl hV hvn hW hwn hvl HVC hvb
      have tk1 : True := trivial
      have tk2 : True := trivial
      have tk3 : True := trivial
      have tk4 : True := trivial
      go_wp2_with (first
        | (go_at_call 50; go_must (refine (rUint_any al _ (by omega)).mono ?_); rw [HU.out]; rintro r z1 hp; obtain ⟨A1, c1, rfl, _, ho, hb⟩ := hp.at_ (n := un) HUN.out; have HX1 := Lib.hid (HX.out.addF9 (OW.byt1 hb ho)); clear hp ho hb HX)
        | (at_builtin; have _t := tk1; go_must (refine wl_appB rfl (.tmp 41) (.tmp 44) rfl Tryz.u8s' HX1.out 2 rfl HB.out rfl _ _ un _ U rfl (HX1.out.sl (i := 0) rfl HUN.out).rb (by omega) ?_); intro A2 c2 z2 hz; have HX2 := Lib.hid (hz.erase 0); clear hz HX1 tk1)
        | (go_at_call 51; have _t := tk2; go_must (refine (rBytes_any kd _ (kn - al) _ _ (by omega) (HSD.out _ (HX2.out.sl (i := 0) rfl HKN.out)).rb).mono ?_); rw [HV.out]; rintro r z3 hp; obtain ⟨A3, c3, rfl, _, ho, hb⟩ := hp.at_ (n := vn) HVN.out; have HX3 := Lib.hid (HX2.out.addF9 (OW.byt1 hb ho)); clear hp ho hb HX2 tk2)
        | (at_builtin; have _t := tk3; go_must (refine wl_appB rfl (.tmp 46) (.tmp 50) rfl Tryz.u8s' HX3.out 2 rfl (show (s.body ++ U).length = bl + un from by rw [List.length_append, HB.out, HUN.out]) rfl _ _ vn _ V rfl (HX3.out.sl (i := 0) rfl HVN.out).rb (by omega) ?_); intro A4 c4 z4 hz; have HX4 := Lib.hid (hz.erase 0); clear hz HX3 tk3)
        | (refine wpList_load_cell rfl 22 (.tmp 56) rfl rfl (HVC2.out _ HX4.out.up) (fun w => Tryz.isAgg22 w) ?_)
        | (go_at_call 51; go_must (refine (rBytes_any e.val _ vl _ _ (by omega) (HEV.out _ HX4.out.up)).mono ?_); rw [HW.out]; rintro r z5 hp; obtain ⟨A5, c5, rfl, _, ho, hb⟩ := hp.at_ (n := wn) HWN.out; have HX5 := Lib.hid (HX4.out.addF9 (OW.byt1 hb ho)); clear hp ho hb HX4)
        | (at_builtin; go_must (refine wl_appB rfl (.tmp 52) (.tmp 58) rfl Tryz.u8s' HX5.out 2 rfl (show (s.body ++ U ++ V).length = bl + un + vn from by rw [List.length_append, List.length_append, HB.out, HUN.out, HVN.out]) rfl _ _ wn _ W rfl (HX5.out.sl (i := 0) rfl HWN.out).rb (by omega) ?_); intro A6 c6 z6 hz; have HX6 : Hid (OW w [bytO 5 (some ⟨gk, 0, none⟩, ck, kb), bytO 5 (A6, c6, s.body ++ U ++ V ++ W), bytO 5 (Ap2, cp2, (placesB R s).flatMap four4), bytO 5 (Al, cl, s.key)] z6) := Lib.hid (hz.erase 0); clear hz HX5))
      go_roundw
      case rel =>
        have hb5 := HSZ.out
        have e1 : s.body ++ U ++ V ++ W = s.body ++ rowK (alikeB R s kb) kb e.val := by
          rw [← HU.out, ← HV.out, ← HW.out, HKD.out, ← HAL.out]
          unfold rowK
          simp [List.append_assoc]
        refine ⟨k + 1, bl + un + vn + wn, pl2, kn, A6, c6, Ap2, cp2, some ⟨gk, 0, none⟩, ck, by omega, by omega, by omega, hknb, by go_num, rfl, rfl, rfl, Lib.hid ?_, Lib.hid ?_, Lib.hid ?_, Lib.hid ?_⟩
        · rw [HTK.out]; show (s.body ++ _).length = _
          rw [← e1]; simp only [List.length_append]; rw [HB.out, HUN.out, HVN.out, HWN.out]
        · rw [HTK.out]; exact HP2.out
        · rw [HTK.out]; exact HKN.out
        · rw [HTK.out]
          have h := HX6.out
          rw [e1] at h
          exact ((h.front (i := 2) rfl).front (i := 2) rfl).sub (.cons_cons _ (.cons_cons _ (.cons_cons _ (.cons _ (List.Sublist.refl _)))))
      case measure => simp [intOf]; omega
    have hdk : decide ((k : Int) < (n : Int)) = false := decide_eq_false (by omega)
    have hkn : k = n := by omega
    have HLT : Hid (L.take k = L) := Lib.hid (take_all (by have := HLE.out; omega))
    have HLB : Hid (layB R L = headB5 R s ++ lowB (sumL (headB5 R s))) := Lib.hid (by
      unfold layB
      rw [if_neg (by intro h; have := HLE.out; rw [h] at this; exact h0 (by simpa using this.symm)), HS.out, HLT.out]; rfl)
    obtain ⟨hd2, hhd⟩ : ∃ z, z = headB5 R s := ⟨_, rfl⟩
    have HHD := Lib.hid hhd.symm
    have HE8 : Hid (s.body ++ s.places.flatMap four4 ++ four4 k ++ [UInt8.ofNat R] = hd2) := Lib.hid (by rw [hhd, ← HN.out]; rfl)
    have HL7 : Hid ((s.body ++ s.places.flatMap four4 ++ four4 k).length = bl + pl + 4) := Lib.hid (by simp only [List.length_append]; rw [HB.out, HP.out]; rfl)
    have HLD : Hid (hd2.length = bl + pl + 4 + 1) := Lib.hid (by rw [← HE8.out, List.length_append, HL7.out]; rfl)
    have HU8 : Hid ([Value.int .u8 (R : Int)] = u8s [UInt8.ofNat R]) := Lib.hid (by
      show _ = [u8v _]
      unfold u8v
      rw [UInt8.toNat_ofNat', Nat.mod_eq_of_lt (by omega)])
    subst hkn
    clear hhd hlt
    have tk1 : True := trivial
    have tk2 : True := trivial
    have tk3 : True := trivial
    have hblb : bl ≤ 2600000000 := by omega
    have hplb : pl ≤ 2000000 := by omega
    go_wp2_with (first
      | (at_builtin; have _t := tk1; go_must (refine wl_appB rfl (.tmp 61) (.tmp 62) rfl Tryz.u8s' HX.out 0 rfl HB.out rfl _ _ pl _ (s.places.flatMap four4) rfl (HX.out.sl (i := 1) rfl HP.out).rb (by omega) ?_); intro A1 c1 z1 hz; have HX1 := Lib.hid hz; clear hz HX tk1)
      | (go_at_call 78; go_must (refine (rfour_any k _ (by omega)).mono ?_); rintro r y3 hp; obtain ⟨A4, c4, rfl, _, ho, hb⟩ := hp.at_ (n := 4) rfl; have HX2 := Lib.hid (HX1.out.addF9 (OW.byt1 hb ho)); clear hp ho hb HX1)
      | (at_builtin; have _t := tk2; go_must (refine wl_appB rfl (.tmp 64) (.tmp 67) rfl Tryz.u8s' HX2.out 1 rfl (show (s.body ++ s.places.flatMap four4).length = bl + pl from by rw [List.length_append, HB.out, HP.out]) rfl _ _ 4 _ (four4 k) rfl (HX2.out.sl (i := 0) rfl rfl).rb (by omega) ?_); intro A5 c5 z5 hz; have HX3 := Lib.hid (hz.erase 0); clear hz HX2 tk2)
      | (at_builtin; have _t := tk3; go_must (refine wl_appB rfl (.tmp 69) (.tmp 72) rfl Tryz.u8s' (HX3.out.al (.cells #[.int .u8 (R : Int)] 5)) 0 rfl HL7.out rfl _ (some ⟨z5.heap.size, 0, none⟩) 1 1 [UInt8.ofNat R] rfl (by exact reads_lit z5 _ [UInt8.ofNat R] _ _ HU8.out) (by omega) ?_); intro A6 c6 z6 hz; rw [HE8.out] at hz; have HX4 := Lib.hid (hz.left (os := [_]) (ps := [_, _])); clear hz HX3 tk3)
      | (go_at_call 34; go_must (refine (sealed_any hd2 _ (bl + pl + 4 + 1) _ _ (HX4.out.sl (i := 0) rfl HLD.out)).mono ?_); rintro r y7 hp; obtain ⟨A7, c7, rfl, _, ho, hb⟩ := hp.at_ (n := 4) rfl; have HX5 := Lib.hid (HX4.out.addF9 (OW.byt1 hb ho)); clear hp ho hb HX4)
      | (at_builtin; go_must (refine wl_appB rfl (.tmp 74) (.tmp 76) rfl Tryz.u8s' HX5.out 1 rfl HLD.out rfl _ _ 4 _ (lowB (sumL hd2)) rfl (HX5.out.sl (i := 0) rfl rfl).rb (by omega) ?_); intro A8 c8 z8 hz; have HX6 : Hid (OW w [bytO 5 (A8, c8, hd2 ++ lowB (sumL hd2))] z8) := Lib.hid (hz.erase 0); clear hz HX5))
    go_ret
    rw [HLB.out, HHD.out]
    exact HX6.out.bytes1 rfl (n := bl + pl + 4 + 1 + 4) (by rw [List.length_append, HLD.out]; rfl) rfl
end Go.Proofs.YtmigjipfomfacaaGreatDoor
