/-
  The statements' written, walked.
-/
import Derived.Test.YtkkfiffgldhahaaDoorWireW12
import Derived.Test.YtkkfiffgldhahaaDoorWireW3
import Derived.Test.YtkkfiffgldhahaaDoorWireP8
import Derived.Deep.CutRange
import Derived.Deep.DeepCutAuto
namespace Go.Proofs.YtkkfiffgldhahaaDoor
open Go.RowKit

theorem rTo_len8 (v : Nat) : (risB v).length = 8 := rTo_len v 8
theorem own_lit (w : World) (C : Array Value) (e : TypeId) (base n size : Nat) (hb : base ≤ w.heap.size) (hm : n ≤ maxLen) (hs : C.size = n * size) : (w.alloc (.cells C e)).ownsRow base e size (.slice (some ⟨w.heap.size, 0, none⟩) n n) n C.toList :=
  ⟨by rw [Array.length_toList]; exact hs, .inr ⟨w.heap.size, n, C, rfl, hb, heap_alloc_new w _, Nat.le_refl _, hm, hs, by rw [← hs, ← Array.length_toList, List.take_length]⟩⟩
theorem Tryd.wrs : SliceOf Tryd.prog 62 65 2 32 := SliceOf.mk' (z := .agg #[.slice none 0 0, .int .i64 0]) Tryd.underlying62 (by kernel_rfl) rfl (by decide)
theorem OwnB.kept13 {T : TypeId} {base g : Nat} {w w' : World} {A : Option Addr} {c : Nat} {l : List UInt8} (h : OwnB T base w A c l) (hg : w.grownBy w' (some g)) (hlt : g < base) : OwnB T base w' A c l := by
  refine World.ownsRow.kept h hg ?_
  cases A with
  | none => exact .inl rfl
  | some a =>
    refine .inr fun e => ?_
    have := (World.ownsRow.lt h a.block rfl).1
    injection e with e
    omega
/-- A slice that reads, behind an append to a younger row. -/
theorem Sl.over {w x y : World} {A : Option Addr} {n c g : Nat} {l : List UInt8} (h : Sl w A n c l) (hb : Below w.heap.size w x) (hg : x.grownBy y (some g)) (hle : w.heap.size ≤ g) : Sl y A n c l :=
  ⟨Reads.more (Reads.grown (h.rb.below hb) hg hb.size (fun _ e => by injection e with e; omega)) (Nat.le_trans hb.size hg.size), h.cap, h.lim, h.nil⟩
/-- What is written of a number and of bytes; by which Read it is read. -/
def wB (v : Nat) (l : List UInt8) : Nat → List UInt8
  | 0 => uintB v
  | 1 => risB (v / 2)
  | 2 => risB (9223372036854775807 - v / 2)
  | 3 => uintB l.length ++ l
  | 4 => ordB l
  | _ => frameB l
def wK : Nat → Int
  | 0 => 2
  | 1 => 6
  | 2 => 8
  | 3 => 4
  | 4 => 10
  | _ => 13
set_option maxRecDepth 100000 in
set_option maxHeartbeats 1000000 in
theorem written_any (v : Nat) (l : List UInt8) (A : Option Addr) (n c : Nat) (w : World) (hv : v < 18446744073709551616) (hs : Sl w A n c l) (hn : n ≤ 1048576) (ht : TabAt 0 w) :
    Calls Tryd.prog 44 #[.int .u64 v, .slice A n c] w fun e w' => ∃ b o cv, e = .returned (.slice (some ⟨b, o, none⟩) 6 cv) ∧ b < w'.heap.size ∧ (∀ i, i < 6 → ∃ A c, w'.cell? ⟨b, o + 2 * i, none⟩ = some (.slice A (wB v l i).length c) ∧ w'.cell? ⟨b, o + (2 * i + 1), none⟩ = some (.int .i64 (wK i)) ∧ Sl w' A (wB v l i).length c (wB v l i)) ∧ Below w.heap.size w w' := by
  have HT : Hid (∀ w', Below w.heap.size w w' → TabAt 0 w') := Lib.hid fun w' h => ht.later h
  have HA : Hid (∀ w', Below w.heap.size w w' → Sl w' A n c l) := Lib.hid fun w' h => hs.later h
  have HL := Lib.hid hs.len
  obtain ⟨N, hN⟩ : ∃ N, N = v / 2 := ⟨_, rfl⟩
  have hNb : N < 9223372036854775808 := by omega
  have HV := Lib.hid hv
  have HNb := Lib.hid hNb
  have hsh : (v : Int) / 2 = (N : Int) := by omega
  have hsw : IntKind.i64.wrap ((v : Int) / 2) = (N : Int) := by rw [hsh]; exact i64_sum (by omega) (by omega)
  have tok1 : True := trivial
  have HNN := Lib.hid hN
  clear hs ht hN hv
  go_enter Tryd.func44, Tryd.ntmps44
  go_upto_region 5 with (first
    | (go_at_call 33; go_must (refine (rising_any N _ HNb.out).mono ?_); rintro e w1 hp; obtain ⟨A1, c1, rfl, hS1, _, hb1⟩ := BytesPost2.at_ (n := 8) (k' := 0) hp (rTo_len _ _) rfl; have HB1 := Lib.hid hb1; have HS1 := Lib.hid hS1; clear hp hS1 hb1)
    | (go_at_call 34; go_must (refine (falling_any N _ HNb.out).mono ?_); rintro e w2 hp; obtain ⟨A2, c2, rfl, hS2, _, hb2⟩ := BytesPost2.at_ (n := 8) (k' := 0) hp (rTo_len _ _) rfl; have HB2 := Lib.hid (HB1.out.trans (hb2.mono HB1.out.size)); have HS2 := Lib.hid hS2; have HR2 := Lib.hid (HS1.out.later hb2); clear hp hS2 hb2)
    | (go_at_call 26; go_must (refine (uint_any v _ HV.out).mono ?_); rintro e w3 hp; obtain ⟨A3, c3, rfl, hS3, _, hb3⟩ := hp.at_ rfl; have HB3 := Lib.hid (HB2.out.trans (hb3.mono HB2.out.size)); have HS3 := Lib.hid hS3; have HR3 := Lib.hid (HR2.out.later hb3); have HQ3 := Lib.hid (HS2.out.later hb3); clear hp hS3 hb3)
    | (go_at_call 27; go_must (refine (bytes_any l A n c _ (by omega) (HA.out _ HB3.out).rb).mono ?_); rintro e w4 hp; obtain ⟨A4, c4, rfl, hS4, _, hb4⟩ := hp.at_ rfl; have HB4 := Lib.hid (HB3.out.trans (hb4.mono HB3.out.size)); have HS4 := Lib.hid hS4; have HR4 := Lib.hid (HR3.out.later hb4); have HQ4 := Lib.hid (HQ3.out.later hb4); have HU4 := Lib.hid (HS3.out.later hb4); clear hp hS4 hb4)
    | (go_at_call 30; go_must (refine (ordered_any l A n c _ (by omega) (HA.out _ HB4.out).rb).mono ?_); rintro e w5 hp; obtain ⟨A5, c5, rfl, hS5, _, hb5⟩ := hp.at_ rfl; have HB5 := Lib.hid (HB4.out.trans (hb5.mono HB4.out.size)); have HS5 := Lib.hid hS5; have HR5 := Lib.hid (HR4.out.later hb5); have HQ5 := Lib.hid (HQ4.out.later hb5); have HU5 := Lib.hid (HU4.out.later hb5); have HY5 := Lib.hid (HS4.out.later hb5); clear hp hS5 hb5))
  have hd : decide ((n : Int) ≤ 1048576) = true := decide_eq_true (by omega)
  have HOL := Lib.hid (own_lit w5 #[.slice A3 (uintB v).length c3, .int .i64 2, .slice A1 8 c1, .int .i64 6, .slice A2 8 c2, .int .i64 8, .slice A4 (uintB l.length ++ l).length c4, .int .i64 4, .slice A5 (ordB l).length c5, .int .i64 10] 65 w.heap.size 5 2 HB5.out.size (by unfold maxLen; omega) rfl)
  have HB6 := Lib.hid (HB5.out.alloc HB5.out.size (.cells #[.slice A3 (uintB v).length c3, .int .i64 2, .slice A1 8 c1, .int .i64 6, .slice A2 8 c2, .int .i64 8, .slice A4 (uintB l.length ++ l).length c4, .int .i64 4, .slice A5 (ordB l).length c5, .int .i64 10] 65))
  have HW56 := Lib.hid ((Below.refl w5.heap.size w5).alloc (Nat.le_refl _) (.cells #[.slice A3 (uintB v).length c3, .int .i64 2, .slice A1 8 c1, .int .i64 6, .slice A2 8 c2, .int .i64 8, .slice A4 (uintB l.length ++ l).length c4, .int .i64 4, .slice A5 (ordB l).length c5, .int .i64 10] 65))
  have HSZ : Hid (w5.heap.size < (w5.alloc (.cells #[.slice A3 (uintB v).length c3, .int .i64 2, .slice A1 8 c1, .int .i64 6, .slice A2 8 c2, .int .i64 8, .slice A4 (uintB l.length ++ l).length c4, .int .i64 4, .slice A5 (ordB l).length c5, .int .i64 10] 65)).heap.size) := Lib.hid (by simp)
  simp only [← List.length_append]
  generalize w5.alloc _ = w6 at *
  obtain ⟨xs, hxs⟩ : ∃ xs : List Value, xs = [.slice A3 (uintB v).length c3, .int .i64 2, .slice A1 8 c1, .int .i64 6, .slice A2 8 c2, .int .i64 8, .slice A4 (uintB l.length ++ l).length c4, .int .i64 4, .slice A5 (ordB l).length c5, .int .i64 10] := ⟨_, rfl⟩
  have HXS := Lib.hid hxs
  have HO6 : Hid (w6.ownsRow w.heap.size 65 2 (.slice (some ⟨w5.heap.size, 0, none⟩) 5 5) 5 xs) := Lib.hid (by rw [hxs]; exact HOL.out)
  have HFR : Hid (frameR l = frameB l ∧ frameE l = 0) := Lib.hid (by unfold frameR frameE; rw [HL.out, if_pos hn, if_pos hn]; exact ⟨rfl, rfl⟩)
  obtain ⟨g5, hg5⟩ : ∃ g, g = w5.heap.size := ⟨_, rfl⟩
  have HG5 := Lib.hid hg5
  rw [← hg5] at HO6 ⊢
  clear HOL hxs hg5
  go_wp2_with (first
    | (go_at_call 19; go_must (refine (frame_any l A n c _ (by omega) (HA.out _ HB6.out).cap (HA.out _ HB6.out).lim (HA.out _ HB6.out).nil (HA.out _ HB6.out).rb (HT.out _ HB6.out)).mono ?_); rintro e w7 hp; rw [HFR.out.1, HFR.out.2] at hp; obtain ⟨A7, c7, rfl, _, hF7, hb7⟩ := BytesPost2.at_ (n := (frameB l).length) (k' := 0) hp rfl rfl; have HB7 := Lib.hid (HB6.out.trans (hb7.mono HB6.out.size)); have HF7 := Lib.hid hF7; have HB57 := Lib.hid (HW56.out.trans (hb7.mono HW56.out.size)); have HO7 := Lib.hid (own_below HO6.out hb7); clear hp hb7 hF7)
    | (at_builtin; go_must (refine wpList_append_reads _ rfl (.tmp 48) (.tmp 51) rfl Tryd.wrs w.heap.size (.slice (some ⟨g5, 0, none⟩) 5 5) 5 xs rfl (HO7.out.alloc _) (w7.heap.size + 1) (some ⟨w7.heap.size, 0, none⟩) 1 1 [.slice A7 (frameB l).length c7, .int .i64 13] rfl (by exact Reads.new w7 #[.slice A7 (frameB l).length c7, .int .i64 13] _ 2 1 rfl) (by simp [Value.oneCell']) (by unfold maxLen; omega) (by omega) (by have := HB7.out.size; simp; omega) ?_); intro v8 w8 hown8 hg8 hat8))
  have hsz := HB7.out.size
  have HB8 := Lib.hid (below_app (HB7.out.alloc hsz _) (HO7.out.alloc _) hg8 (by simp; omega) (Nat.le_refl _))
  have HG8 := Lib.hid (show (w7.alloc (.cells #[.slice A7 (frameB l).length c7, .int .i64 13] 65)).grownBy w8 (some g5) from hg8)
  have HX := Lib.hid (HB57.out.alloc HB57.out.size (.cells #[.slice A7 (frameB l).length c7, .int .i64 13] 65))
  have HF8 := Lib.hid (Sl.own (OwnB.kept13 (OwnB.later HF7.out ((Below.refl w7.heap.size w7).alloc (Nat.le_refl _) _)) HG8.out (by rw [HG5.out]; exact HSZ.out)))
  have hle : w5.heap.size ≤ g5 := by rw [HG5.out]; exact Nat.le_refl _
  have H1 := Lib.hid (HR5.out.over HX.out HG8.out hle)
  have H2 := Lib.hid (HQ5.out.over HX.out HG8.out hle)
  have H3 := Lib.hid (HU5.out.over HX.out HG8.out hle)
  have H4 := Lib.hid (HY5.out.over HX.out HG8.out hle)
  have H5 := Lib.hid (HS5.out.over HX.out HG8.out hle)
  obtain ⟨A8, c8, rfl, _⟩ := own_slice hown8
  obtain ⟨b8, o8, rfl, hb8, hc8⟩ := (Reads.own hown8).2 (by omega)
  rw [HXS.out] at hc8
  have HC8 := Lib.hid hc8
  clear hown8 hg8 hat8 hc8
  go_ret
  refine ⟨b8, o8, c8, rfl, hb8, fun i hi => ?_, HB8.out⟩
  match i, hi with
  | 0, _ => exact ⟨A3, c3, HC8.out 0 _ rfl, HC8.out 1 _ rfl, H3.out⟩
  | 1, _ => exact ⟨A1, c1, by show _ = some (Value.slice A1 (risB (v / 2)).length c1); rw [rTo_len8]; exact HC8.out 2 _ rfl, HC8.out 3 _ rfl, by show Sl w8 A1 (risB (v / 2)).length c1 (risB (v / 2)); rw [rTo_len8, ← HNN.out]; exact H1.out⟩
  | 2, _ => exact ⟨A2, c2, by show _ = some (Value.slice A2 (risB (9223372036854775807 - v / 2)).length c2); rw [rTo_len8]; exact HC8.out 4 _ rfl, HC8.out 5 _ rfl, by show Sl w8 A2 (risB (9223372036854775807 - v / 2)).length c2 (risB (9223372036854775807 - v / 2)); rw [rTo_len8, ← HNN.out]; exact H2.out⟩
  | 3, _ => exact ⟨A4, c4, HC8.out 6 _ rfl, HC8.out 7 _ rfl, H4.out⟩
  | 4, _ => exact ⟨A5, c5, HC8.out 8 _ rfl, HC8.out 9 _ rfl, H5.out⟩
  | 5, _ => exact ⟨A7, c7, HC8.out 10 _ rfl, HC8.out 11 _ rfl, HF8.out⟩
end Go.Proofs.YtkkfiffgldhahaaDoor
