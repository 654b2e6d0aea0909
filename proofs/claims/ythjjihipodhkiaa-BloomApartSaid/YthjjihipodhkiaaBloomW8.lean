/-
  The statements' small helpers, walked: num, alike, started.
-/
import Derived.Test.YthjjihipodhkiaaBloomW7
import Derived.Test.YthjjihipodhkiaaBloomW4
import Derived.Test.YthjjihipodhkiaaBloomW5
import Derived.Lib.SlBytesConst
namespace Go.Proofs.Ythjjihipodhkiaa
open Go.RowKit Go.Maps Go.WideMaps

set_option maxRecDepth 100000 in
theorem num_any (x : Int) (w : World) : Calls Try.prog 14 #[.int .i64 x] w fun e w' => e = .returned (.int .i64 x) ∧ w = w' := by
  go_enter Try.func14, Try.ntmps14
  go_wp2
  go_ret
  exact ⟨rfl, rfl⟩

set_option maxRecDepth 100000 in
theorem alike_any (a b : List UInt8) (A B : Option Addr) (n c m d : Nat) (w : World) (ha : RB w w.heap.size A n a) (hb : RB w w.heap.size B m b) :
    Calls Try.prog 15 #[.slice A n c, .slice B m d] w fun e w' => e = .returned (.bool (a == b)) ∧ w = w' := by
  have tok1 : True := trivial
  go_enter Try.func15, Try.ntmps15
  go_wp2_with (first
    | (have _t := tok1; refine wpList_string_reads rfl _ 24 9 5 rfl Try.underlying24 Try.underlying5 Try.underlying9 rfl ha ?_; clear tok1)
    | (refine wpList_string_reads rfl _ 24 9 5 rfl Try.underlying24 Try.underlying5 Try.underlying9 rfl hb ?_))
  go_ret
  exact ⟨rfl, rfl⟩

theorem RBs.of_cells {w : World} {B b o n : Nat} {ks : List (List UInt8)} (hb : b < B) (hn : ks.length = n)
    (h : ∀ (i : Nat) (k : List UInt8), ks[i]? = some k → ∃ (a : Option Addr) (c : Nat), w.cell? ⟨b, o + i, none⟩ = some (.slice a k.length c) ∧ k.length ≤ c ∧ c ≤ 9223372036854775807 ∧ (a = none → c = 0) ∧ RB w B a k.length k) :
    RBs w B (some ⟨b, o, none⟩) n ks := by
  subst hn
  have hv : ∀ (i : Nat) (u : Value), ((List.range ks.length).map fun i => (w.cell? ⟨b, o + i, none⟩).getD undef)[i]? = some u → i < ks.length ∧ u = (w.cell? ⟨b, o + i, none⟩).getD undef := by
    intro i u hu
    rw [List.getElem?_map, Option.map_eq_some_iff] at hu
    obtain ⟨j, hj, rfl⟩ := hu
    obtain ⟨hlt, e⟩ := List.getElem?_eq_some_iff.1 hj
    rw [List.getElem_range] at e
    subst e
    exact ⟨by simpa using hlt, rfl⟩
  refine ⟨(List.range ks.length).map fun i => (w.cell? ⟨b, o + i, none⟩).getD undef, ⟨by simp, fun _ => ⟨b, o, rfl, hb, fun j u hu => ?_⟩⟩, by simp, fun i k hk => ?_⟩
  · obtain ⟨hlt, rfl⟩ := hv j u hu
    obtain ⟨a, c, h1, _⟩ := h j _ (List.getElem?_eq_getElem hlt)
    rw [h1]; rfl
  · obtain ⟨a, c, h1, h2, h3, h4, h5⟩ := h i k hk
    refine ⟨a, c, ?_, h2, h3, h4, h5⟩
    have hlt := (List.getElem?_eq_some_iff.1 hk).1
    rw [List.getElem?_map, List.getElem?_range hlt, Option.map_some, h1]; rfl

theorem cell_new {W : World} {c : Array Value} {t : TypeId} {b j : Nat} {v : Value} (hb : b = W.heap.size) (hv : c[j]? = some v) : (W.alloc (.cells c t)).cell? ⟨b, j, none⟩ = some v := by
  subst hb
  simp [hv]

/-- The filter of the two keys that 'started' asks for. -/
def startK : List (List UInt8) := [[97], [98]]
def startF : List UInt8 := buildB 10 startK
theorem startF_len : startF.length = 14 := by decide +kernel
theorem startF_ok : buildE 10 startK = 0 := by decide +kernel
theorem startF_check : checkE startF = 0 := by decide +kernel
theorem startF_b : hasB startF [98] = true := by decide +kernel
theorem startF_zz : hasB startF [122, 122] = false := by decide +kernel
theorem startF_ones : 1 < onesN startF := by decide +kernel
theorem started_post {w w' : World} {e : Ending} (h : BuildPost 10 startK w e w') :
    ∃ g, e = .returned (.tuple #[.slice (some ⟨g, 0, none⟩) 14 14, .int .i64 0]) ∧ w'.ownsRow w.heap.size 5 1 (.slice (some ⟨g, 0, none⟩) 14 14) 14 (u8s startF) ∧ Below w.heap.size w w' := by
  rcases h with ⟨_, g, rfl, h2, h3⟩ | ⟨h, _⟩
  · have e : (buildB 10 startK).length = 14 := startF_len
    rw [e] at h2 ⊢
    exact ⟨g, rfl, h2, h3⟩
  · exact absurd startF_ok h
theorem RB.lit (w : World) (C : Array Value) (l : List UInt8) (t : TypeId) (fr : Nat × Nat) (hC : C.toList = u8s l) : RB (w.alloc (.cells C t fr)) (w.heap.size + 1) (some ⟨w.heap.size, 0, none⟩) l.length l :=
  RB.mk' rfl fun _ => ⟨_, 0, rfl, by omega, fun j c hj => by
    rw [Nat.zero_add, World.cell?_alloc_mark, ← Array.getElem?_toList, hC]
    exact u8s_at hj⟩
theorem startK_reads (w : World) (f0 f1 : Nat × Nat) : RBs (((w.alloc (.cells #[.int .u8 97] 5 f0)).alloc (.cells #[.int .u8 98] 5 f1)).alloc (.cells #[.slice (some ⟨w.heap.size, 0, none⟩) 1 1, .slice (some ⟨w.heap.size + 1, 0, none⟩) 1 1] 24))
    (((w.alloc (.cells #[.int .u8 97] 5 f0)).alloc (.cells #[.int .u8 98] 5 f1)).alloc (.cells #[.slice (some ⟨w.heap.size, 0, none⟩) 1 1, .slice (some ⟨w.heap.size + 1, 0, none⟩) 1 1] 24)).heap.size (some ⟨w.heap.size + 2, 0, none⟩) 2 startK := by
  have r0 : RB (w.alloc (.cells #[.int .u8 97] 5 f0)) (w.heap.size + 1) (some ⟨w.heap.size, 0, none⟩) 1 [97] := RB.lit w _ [97] _ _ rfl
  have r1 : RB ((w.alloc (.cells #[.int .u8 97] 5 f0)).alloc (.cells #[.int .u8 98] 5 f1)) (w.heap.size + 1 + 1) (some ⟨w.heap.size + 1, 0, none⟩) 1 [98] := by
    have := RB.lit (w.alloc (.cells #[.int .u8 97] 5 f0)) #[.int .u8 98] [98] 5 f1 rfl
    rwa [World.size_alloc] at this
  refine RBs.of_cells (by simp) rfl fun i k hk => ?_
  match i, hk with
  | 0, hk =>
    injection hk with hk; subst hk
    exact ⟨_, 1, cell_new (by simp) rfl, by simp, by omega, by simp, (((r0.more (by omega)).below ((Below.refl (w.heap.size + 1) _).alloc (by simp) _)).below ((Below.refl (w.heap.size + 1) _).alloc (by simp) _)).more (by simp)⟩
  | 1, hk =>
    injection hk with hk; subst hk
    exact ⟨_, 1, cell_new (by simp) rfl, by simp, by omega, by simp, (r1.below ((Below.refl (w.heap.size + 1 + 1) _).alloc (by simp) _)).more (by simp)⟩

set_option maxRecDepth 100000 in
set_option maxHeartbeats 1000000 in
theorem started_any (w : World) : Calls Try.prog 12 #[] w fun e w' => e = .returned (.bool true) ∧ Below w.heap.size w w' := by
  have HK := Lib.hid (startK_reads w)
  have kc := fun (w : World) (C : Array Value) (n c : Nat) => Lib.run_convert_bytes_const (P := Try.prog) w 24 5 C n c Try.underlying24 Try.underlying5
  have kc2 : ∀ (w : World) (o : Obj) (C : Array Value) (n c : Nat), (convert 24 24 (.slice (some ⟨w.heap.size + 1, 0, none⟩) n c)).run Try.prog ((w.alloc o).alloc (.cells C 5)) = .ok (.slice (some ⟨w.heap.size + 1, 0, none⟩) n c) ((w.alloc o).alloc (.cells C 5 (C.size, C.size + 1))) := fun w o C n c => by
    have := kc (w.alloc o) C n c
    rwa [World.size_alloc] at this
  have tok1 : True := trivial
  have d1 : decide (1 < onesN startF) = true := decide_eq_true startF_ones
  have Hc := Lib.hid startF_check
  have Hb := Lib.hid startF_b
  have Hz := Lib.hid startF_zz
  have hlim : (14 : Nat) ≤ 9223372036854775807 := by omega
  have hlim1 : (1 : Nat) ≤ 9223372036854775807 := by omega
  have hlim2 : (2 : Nat) ≤ 9223372036854775807 := by omega
  go_enter Try.func12, Try.ntmps12
  go_wp2_with (first
    | (go_at_call 13; refine (build_any 10 startK _ 2 2 _ hlim2 (HK.out _ _)).mono ?_; rintro e w1 hp; obtain ⟨g, rfl, hO1, hb1⟩ := started_post hp; have HO1 := Lib.hid hO1; clear hO1)
    | (go_at_call 23; have _t := tok1; refine (has_any startF [98] _ _ 14 14 1 1 _ hlim (RB.own (own_below HO1.out ((Below.refl _ _).alloc (Nat.le_refl _) _))) hlim1 ((RB.lit w1 _ [98] _ _ rfl).more (by simp))).mono ?_; rintro e w2 ⟨rfl, hb2⟩; rw [Hc.out, Hb.out]; clear tok1; have HO2 := Lib.hid (own_below (own_below HO1.out ((Below.refl _ _).alloc (Nat.le_refl _) _)) hb2))
    | (go_at_call 23; refine (has_any startF [122, 122] _ _ 14 14 2 2 _ hlim (RB.own (own_below HO2.out ((Below.refl _ _).alloc (Nat.le_refl _) _))) hlim2 ((RB.lit w2 _ [122, 122] _ _ rfl).more (by simp))).mono ?_; rintro e w3 ⟨rfl, hb3⟩; rw [Hc.out, Hz.out]; have HO3 := Lib.hid (own_below (own_below HO2.out ((Below.refl _ _).alloc (Nat.le_refl _) _)) hb3))
    | (go_at_call 17; refine (ones_any startF _ 14 14 _ hlim (Nat.le_refl _) (RB.own HO3.out)).mono ?_; rintro e w4 ⟨rfl, hb4⟩)
    | (go_at_call 14; refine (num_any _ _).mono ?_; rintro e wn ⟨rfl, rfl⟩))
  go_ret
  have hA := (((Below.refl w.heap.size w).alloc (Nat.le_refl _) (.cells #[.int .u8 97] 5 (1, 2))).alloc (by simp) (.cells #[.int .u8 98] 5 (1, 2))).alloc (by simp; omega) (.cells #[.slice (some ⟨w.heap.size, 0, none⟩) 1 1, .slice (some ⟨w.heap.size + 1, 0, none⟩) 1 1] 24)
  have h1 := hA.trans (hb1.mono hA.size)
  have h2 := (h1.alloc h1.size (.cells (u8s [98]).toArray 5 (1, 2)))
  have h3 := h2.trans (hb2.mono h2.size)
  have h4 := (h3.alloc h3.size (.cells (u8s [122, 122]).toArray 5 (2, 3)))
  have h5 := h4.trans (hb3.mono h4.size)
  exact ⟨rfl, h5.trans (hb4.mono h5.size)⟩

end Go.Proofs.Ythjjihipodhkiaa
