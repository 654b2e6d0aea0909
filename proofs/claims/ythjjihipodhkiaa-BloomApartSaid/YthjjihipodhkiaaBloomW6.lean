/-
  bloom.Union, walked.
-/
import Derived.Test.YthjjihipodhkiaaBloomW5
namespace Go.Proofs.Ythjjihipodhkiaa
open Go.RowKit

theorem Try.u8s' : SliceOf Try.prog 24 5 1 1 := SliceOf.mk' (z := .int .u8 0) Try.underlying24 (by kernel_rfl) rfl (by decide)

/-- What Union leaves. -/
def UnionPost (a b : List UInt8) (w : World) (e : Ending) (w' : World) : Prop :=
  (unionE a b = 0 ∧ ∃ g, e = .returned (.tuple #[.slice (some ⟨g, 0, none⟩) a.length a.length, .int .i64 0]) ∧ w'.ownsRow w.heap.size 5 1 (.slice (some ⟨g, 0, none⟩) a.length a.length) a.length (u8s (orB a b)) ∧ Below w.heap.size w w') ∨
  (unionE a b ≠ 0 ∧ e = .returned (.tuple #[.slice none 0 0, .int .i64 (unionE a b)]) ∧ Below w.heap.size w w')

set_option maxRecDepth 100000 in
set_option maxHeartbeats 2000000 in
theorem union_any (a b : List UInt8) (A B : Option Addr) (n c m d : Nat) (w : World) (hn : n ≤ 9223372036854775807) (hr : RB w w.heap.size A n a) (hm : m ≤ 9223372036854775807) (hs : RB w w.heap.size B m b) :
    Calls Try.prog 18 #[.slice A n c, .slice B m d] w (UnionPost a b w) := by
  have HR : Hid (∀ w', Below w.heap.size w w' → RB w' w'.heap.size A n a) := Lib.hid fun w' h => hr.later h
  have HS : Hid (∀ w', Below w.heap.size w w' → RB w' w'.heap.size B m b) := Lib.hid fun w' h => hs.later h
  have hla := hr.len
  have hlb := hs.len
  by_cases hfab : isF a = true ∧ isF b = true
  case neg =>
    have HE : Hid (unionE a b = 62) := Lib.hid (by
      unfold unionE
      cases h1 : isF a <;> cases h2 : isF b <;> simp_all)
    have HP : Hid (∀ w', Below w.heap.size w w' → UnionPost a b w (.returned (.tuple #[.slice none 0 0, .int .i64 62])) w') := Lib.hid fun w' hb => .inr ⟨by rw [HE.out]; decide, by rw [HE.out], hb⟩
    cases h1 : isF a <;> cases h2 : isF b
    case true.true => exact absurd ⟨h1, h2⟩ hfab
    all_goals
      have H1 := Lib.hid h1
      have H2 := Lib.hid h2
      clear h1 h2 hfab hr hs hla hlb
      have tok1 : True := trivial
      go_enter Try.func18, Try.ntmps18
      go_wp2_with (first
        | (go_at_call 35; have _t := tok1; refine (read_any a A n c _ hn (HR.out _ (Below.refl _ _))).mono ?_; rintro e w1 ⟨rfl, hb1⟩; rw [H1.out]; clear tok1)
        | (go_at_call 35; refine (read_any b B m d _ hm (HS.out _ (hb1.alloc hb1.size _))).mono ?_; rintro e w2 ⟨rfl, hb2⟩; rw [H2.out]))
      go_ret2
      exact HP.out _ ((((hb1.alloc hb1.size _).trans (hb2.mono (by have := hb1.size; simp; omega)))).alloc (by have := hb1.size; have := hb2.size; simp at this; omega) _)
  obtain ⟨h1, h2⟩ := hfab
  have H1 := Lib.hid h1
  have H2 := Lib.hid h2
  by_cases hsh : shapeP a = shapeP b ∧ shapeM a = shapeM b
  case neg =>
    have HE : Hid (unionE a b = 63) := Lib.hid (by unfold unionE; rw [h1, h2]; simp [hsh])
    have HP : Hid (∀ w', Below w.heap.size w w' → UnionPost a b w (.returned (.tuple #[.slice none 0 0, .int .i64 63])) w') := Lib.hid fun w' hb => .inr ⟨by rw [HE.out]; decide, by rw [HE.out], hb⟩
    have tok1 : True := trivial
    by_cases hp : shapeP a = shapeP b
    · have d1 : ((shapeP a : Int) == (shapeP b : Int)) = true := by rw [beq_iff_eq]; omega
      have d2 : ((shapeM a : Int) == (shapeM b : Int)) = false := by rw [beq_eq_false_iff_ne]; omega
      clear h1 h2 hr hs hla hlb hp hsh
      go_enter Try.func18, Try.ntmps18
      go_wp2_with (first
        | (go_at_call 35; have _t := tok1; refine (read_any a A n c _ hn (HR.out _ (Below.refl _ _))).mono ?_; rintro e w1 ⟨rfl, hb1⟩; rw [H1.out]; clear tok1)
        | (go_at_call 35; refine (read_any b B m d _ hm (HS.out _ (hb1.alloc hb1.size _))).mono ?_; rintro e w2 ⟨rfl, hb2⟩; rw [H2.out]; obtain ⟨hc2, hf2, hz2⟩ := bcells hb2; simp only [World.size_alloc] at hc2 hf2 hz2; have hz3 := hz2 w1.heap.size (by omega)))
      go_ret2
      exact HP.out _ ((((hb1.alloc hb1.size _).trans (hb2.mono (by have := hb1.size; simp; omega)))).alloc (by have := hb1.size; have := hb2.size; simp at this; omega) _)
    · have d1 : ((shapeP a : Int) == (shapeP b : Int)) = false := by rw [beq_eq_false_iff_ne]; omega
      clear h1 h2 hr hs hla hlb hp hsh
      go_enter Try.func18, Try.ntmps18
      go_wp2_with (first
        | (go_at_call 35; have _t := tok1; refine (read_any a A n c _ hn (HR.out _ (Below.refl _ _))).mono ?_; rintro e w1 ⟨rfl, hb1⟩; rw [H1.out]; clear tok1)
        | (go_at_call 35; refine (read_any b B m d _ hm (HS.out _ (hb1.alloc hb1.size _))).mono ?_; rintro e w2 ⟨rfl, hb2⟩; rw [H2.out]; obtain ⟨hc2, hf2, hz2⟩ := bcells hb2; simp only [World.size_alloc] at hc2 hf2 hz2; have hz3 := hz2 w1.heap.size (by omega)))
      go_ret2
      exact HP.out _ ((((hb1.alloc hb1.size _).trans (hb2.mono (by have := hb1.size; simp; omega)))).alloc (by have := hb1.size; have := hb2.size; simp at this; omega) _)
  have HE : Hid (unionE a b = 0) := Lib.hid (by unfold unionE; rw [h1, h2]; simp [hsh])
  have hqa := of_decide_eq_true h1
  have hqb := of_decide_eq_true h2
  have hnm : n = m := by rw [hla] at hqa; rw [hlb] at hqb; omega
  have hn6 : 6 < n := by rw [hla] at hqa; omega
  have hn7 : n ≤ 2621446 := by rw [hla] at hqa; omega
  subst hnm
  have d1 : ((shapeP a : Int) == (shapeP b : Int)) = true := by rw [beq_iff_eq]; omega
  have d2 : ((shapeM a : Int) == (shapeM b : Int)) = true := by rw [beq_iff_eq]; omega
  have tok1 : True := trivial
  obtain ⟨xb, xo, _, rfl, hxb, _, _⟩ := hr.at_ (k := 0) (by omega)
  obtain ⟨yb, yo, _, rfl, hyb, _, _⟩ := hs.at_ (k := 0) (by omega)
  have HLA := Lib.hid hla
  have HLB := Lib.hid hlb
  clear h1 h2 hr hs hla hlb hsh hqa hqb
  go_enter Try.func18, Try.ntmps18
  go_wp2_with (first
    | (go_at_call 35; have _t := tok1; refine (read_any a _ n c _ hn (HR.out _ (Below.refl _ _))).mono ?_; rintro e w1 ⟨rfl, hb1⟩; rw [H1.out]; clear tok1)
    | (go_at_call 35; refine (read_any b _ n d _ hm (HS.out _ (hb1.alloc hb1.size _))).mono ?_; rintro e w2 ⟨rfl, hb2⟩; rw [H2.out]; obtain ⟨hc2, hf2, hz2⟩ := bcells hb2; simp only [World.size_alloc] at hc2 hf2 hz2; have hz3 := hz2 w1.heap.size (by omega))
    | (at_make; refine wpList_make_full _ rfl (.tmp 32) (.tmp 32) 24 rfl w.heap.size 5 Try.t5 (.int .u8 0) 1 Try.underlying24 (by kernel_rfl) rfl rfl .i64 .i64 _ _ n rfl rfl (by simp) (by simp) (by show 1 * n ≤ _; omega) (by unfold maxLen; omega) (by have := hb1.size; have := hb2.size; simp at this; simp; omega) ?_; intro w3 hown3 hg3; simp only [World.size_alloc, Nat.mul_one] at hown3; have HW3 := Lib.hid ((((hb1.alloc hb1.size _).trans (hb2.mono (by have := hb1.size; simp; omega))).alloc (by have := hb1.size; have := hb2.size; simp at this; omega) _).grown hg3 (by have := hb1.size; have := hb2.size; simp at this; simp; omega) (by simp)); have hz4 : w.heap.size ≤ w2.heap.size := by (have := hb1.size; have := hb2.size; simp at this; omega))
    | (refine wpList_copy_reads (o := ⟨some 36, _, _, _, _, _⟩) rfl (.tmp 34) (.tmp 35) rfl Try.u8s' w.heap.size (w2.heap.size + 1) n n _ rfl hown3 _ (some ⟨xb, xo, none⟩) n c (u8s a) rfl (show Reads _ _ _ _ _ _ from HR.out _ HW3.out) (Nat.le_refl _) (u8s_one _) ?_; intro w4 hown4 hg4))
  have hd : List.drop n (madeCells (Value.int IntKind.u8 0).cells n).toList = [] := List.drop_eq_nil_of_le (by simp [size_madeCells])
  rw [hd, List.append_nil] at hown4
  have HW4 := Lib.hid (HW3.out.grown hg4 HW3.out.size (by intro k hk; injection hk with hk; omega))
  have hg : ∃ g, g = w2.heap.size + 1 := ⟨_, rfl⟩
  obtain ⟨g, hg⟩ := hg
  rw [← hg] at hown4 ⊢
  have hgw : w.heap.size < g := by omega
  clear hd hg hg4 hown3 hg3 HW3 hc2 hf2 hz2 hz3 hz4 hb1 hb2 d1 d2
  go_loopw [11] (fun i wr => ∃ k : Nat, 6 ≤ k ∧ k ≤ n ∧ i = .int .i64 k ∧ wr.ownsRow w.heap.size 5 1 (.slice (some ⟨g, 0, none⟩) n n) n (u8s (orTo a b k)) ∧ Hid (Below w.heap.size w wr)) (fun i _ => n - (intOf i).toNat)
  case atStart => exact ⟨6, by omega, by omega, rfl, by rw [orTo_six]; exact hown4, HW4⟩
  case round =>
    obtain ⟨k, hk6, hk, rfl, hown, HW⟩ := hrel
    clear hown4 HW4
    by_cases hlt : k < n
    case neg =>
      have e : k = n := by omega
      have hown' : wr.ownsRow w.heap.size 5 1 (.slice (some ⟨g, 0, none⟩) n n) n (u8s (orB a b)) := by unfold orB; rw [HLB.out, ← e]; rw [← e] at hown; exact hown
      have HP : Hid (UnionPost a b w (.returned (.tuple #[.slice (some ⟨g, 0, none⟩) n n, .int .i64 0])) wr) := Lib.hid (.inl ⟨HE.out, g, by rw [HLA.out], by rw [HLA.out]; exact hown', HW.out⟩)
      clear hown hown'
      go_wp2
      go_ret2
      exact HP.out
    obtain ⟨x, hx⟩ : ∃ x, a[k]? = some x := ⟨_, List.getElem?_eq_getElem (by rw [HLA.out]; exact hlt)⟩
    obtain ⟨y, hy⟩ : ∃ y, b[k]? = some y := ⟨_, List.getElem?_eq_getElem (by rw [HLB.out]; exact hlt)⟩
    have hcx := (hown.cellAt k (by omega)).trans (u8s_at (orTo_here a b k x hx))
    have hfx := hown.frozenAt k
    have hcy := (HS.out _ HW.out).cell hy
    have hst := hown.stored k (.int .u8 (bits .or .u8 (x.toNat : Int) (y.toNat : Int)))
    have e : (u8s (orTo a b k)).set k (.int .u8 (bits .or .u8 (x.toNat : Int) (y.toNat : Int))) = u8s (orTo a b (k + 1)) := by
      rw [or_walk, orTo_succ a b k x y hk6 hx hy]
      unfold u8s
      rw [List.map_set]; rfl
    rw [e] at hst
    have HST := Lib.hid hst
    have HB2 := Lib.hid (HW.out.grown hst.2 HW.out.size (by intro j hj; injection hj with hj; omega))
    have hgy : g ≠ yb := by omega
    clear hst hown e hx hy
    go_wp2
    go_region
    go_wp2
    go_roundw
    case rel => exact ⟨k + 1, by omega, by omega, by go_num, HST.out.1, Lib.hid HB2.out.drew⟩
    case measure => simp [intOf]; omega
end Go.Proofs.Ythjjihipodhkiaa
