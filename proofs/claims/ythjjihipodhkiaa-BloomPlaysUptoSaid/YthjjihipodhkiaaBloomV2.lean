/-
  The statements' builds, walked.
-/
import Derived.Test.YthjjihipodhkiaaBloomV1
namespace Go.Proofs.Ythjjihipodhkiaa
open Go.RowKit

/-- Lists with marks behind them; the same slices cut to the lists; none lies in either row. -/
def FamW (w : World) (r1 r2 : Option Nat) (vs us : List Value) (ks : List (List UInt8)) : Prop :=
  vs.length = ks.length ∧ us.length = ks.length ∧ ∀ (i : Nat) (k : List UInt8), ks[i]? = some k → ∃ (a : Option Addr) (c : Nat), vs[i]? = some (.slice a (k.length + 5) c) ∧ us[i]? = some (.slice a k.length c) ∧ Sl w a (k.length + 5) c (k ++ mkB) ∧ (∀ x, a = some x → some x.block ≠ r1) ∧ (∀ x, a = some x → some x.block ≠ r2)
section
variable {w x : World} {r1 r2 r' : Option Nat} {vs us : List Value} {ks : List (List UInt8)}
theorem FamW.nil : FamW w r1 r2 [] [] [] := ⟨rfl, rfl, fun i k h => by simp at h⟩
theorem FamW.later (h : FamW w r1 r2 vs us ks) (hb : Below w.heap.size w x) : FamW x r1 r2 vs us ks :=
  ⟨h.1, h.2.1, fun i k hk => by obtain ⟨a, c, q1, q2, q3, q4⟩ := h.2.2 i k hk; exact ⟨a, c, q1, q2, q3.later hb, q4⟩⟩
theorem FamW.step1 (h : FamW w r1 r2 vs us ks) (hg : w.grownBy x r1) (hr : r' = r1 ∨ r' = some w.heap.size) : FamW x r' r2 vs us ks :=
  ⟨h.1, h.2.1, fun i k hk => by
    obtain ⟨a, c, q1, q2, q3, q4, q5⟩ := h.2.2 i k hk
    refine ⟨a, c, q1, q2, q3.apart hg (fun _ => q4), fun z hz => ?_, q5⟩
    rcases hr with rfl | rfl
    · exact q4 z hz
    · have := q3.block_lt (by omega) z hz
      intro e; injection e with e; omega⟩
theorem FamW.step2 (h : FamW w r1 r2 vs us ks) (hg : w.grownBy x r2) (hr : r' = r2 ∨ r' = some w.heap.size) : FamW x r1 r' vs us ks :=
  ⟨h.1, h.2.1, fun i k hk => by
    obtain ⟨a, c, q1, q2, q3, q4, q5⟩ := h.2.2 i k hk
    refine ⟨a, c, q1, q2, q3.apart hg (fun _ => q5), q4, fun z hz => ?_⟩
    rcases hr with rfl | rfl
    · exact q5 z hz
    · have := q3.block_lt (by omega) z hz
      intro e; injection e with e; omega⟩
theorem FamW.snoc (h : FamW w r1 r2 vs us ks) {a : Option Addr} {c n : Nat} {k : List UInt8} (hn : k.length = n) (hs : Sl w a (n + 5) c (k ++ mkB)) (h1 : ∀ x, a = some x → some x.block ≠ r1) (h2 : ∀ x, a = some x → some x.block ≠ r2) : FamW w r1 r2 (vs ++ [.slice a (n + 5) c]) (us ++ [.slice a n c]) (ks ++ [k]) := by
  subst hn
  refine ⟨by simp [h.1], by simp [h.2.1], fun i q hq => ?_⟩
  rw [List.getElem?_append] at hq ⊢
  rw [List.getElem?_append, h.1, h.2.1]
  split at hq
  · rename_i hi
    rw [if_pos hi, if_pos hi]; exact h.2.2 i q hq
  · rename_i hi
    rw [if_neg hi, if_neg hi]
    have h0 : i - ks.length = 0 := by
      have := (List.getElem?_eq_some_iff.1 hq).1
      simp at this; omega
    rw [h0] at hq ⊢
    injection hq with hq; subst hq
    exact ⟨a, c, rfl, rfl, hs, h1, h2⟩
theorem FamW.kv (h : FamW w r1 r2 vs us ks) : KV w w.heap.size us ks :=
  ⟨h.2.1, fun i k hk => by
    obtain ⟨a, c, _, q2, q3, _⟩ := h.2.2 i k hk
    have := q3.take (m := k.length) (by omega)
    rw [List.take_left' rfl] at this
    exact ⟨a, c, q2, this.cap, this.lim, this.nil, this.rb⟩⟩
end
/-- One round: a list is laid with its marks, and both rows take it. -/
theorem builds_step {T e : TypeId} {B0 k q c2 : Nat} {wr w2 w3 w4 : World} {v v3 u u4 : Value} {vs us : List Value} {ks : List (List UInt8)} {p RP : List UInt8} {A2 : Option Addr}
    (hp : ks[k]? = some p) (hRP : RP = p ++ mkB) (hq : q = p.length) (hov : wr.ownsRow B0 e 1 v k vs) (hou : wr.ownsRow B0 e 1 u k us) (hne : ∀ g, v.ownBlock = some g → u.ownBlock ≠ some g)
    (hf : FamW wr v.ownBlock u.ownBlock vs us (ks.take k)) (hb2 : Below wr.heap.size wr w2) (hs2 : Sl w2 A2 (q + 5) c2 RP) (ho2 : OwnB T wr.heap.size w2 A2 c2 RP)
    (ho3 : w3.ownsRow B0 e 1 v3 (k + 1) (vs ++ [.slice A2 (q + 5) c2])) (hg3 : (w2.alloc (.cells #[.slice A2 (q + 5) c2] e)).grownBy w3 v.ownBlock) (ha3 : v3.ownBlock = v.ownBlock ∨ v3.ownBlock = some (w2.alloc (.cells #[.slice A2 (q + 5) c2] e)).heap.size)
    (hg4 : (w3.alloc (.cells #[.slice A2 q c2] e)).grownBy w4 u.ownBlock) (ha4 : u4.ownBlock = u.ownBlock ∨ u4.ownBlock = some (w3.alloc (.cells #[.slice A2 q c2] e)).heap.size) (hle : B0 ≤ wr.heap.size) :
    w4.ownsRow B0 e 1 v3 (k + 1) (vs ++ [.slice A2 (q + 5) c2]) ∧ (∀ g, v3.ownBlock = some g → u4.ownBlock ≠ some g) ∧ FamW w4 v3.ownBlock u4.ownBlock (vs ++ [.slice A2 (q + 5) c2]) (us ++ [.slice A2 q c2]) (ks.take (k + 1)) ∧ Below B0 wr w4 := by
  subst hq; subst hRP
  have hal : Below wr.heap.size wr (w2.alloc (.cells #[.slice A2 (p.length + 5) c2] e)) := hb2.alloc hb2.size _
  have hvl := own_row_lt hov
  have hul := own_row_lt hou
  have hf1 := (hf.later hal).snoc (n := p.length) rfl (hs2.later ((Below.refl _ _).alloc (Nat.le_refl _) (.cells #[.slice A2 (p.length + 5) c2] e))) (ho2.far hvl) (ho2.far hul)
  have hf2 := hf1.step1 hg3 ha3
  have hf3 := (hf2.later ((Below.refl w3.heap.size w3).alloc (Nat.le_refl _) (.cells #[.slice A2 p.length c2] e))).step2 hg4 ha4
  have hv3u : ∀ g, v3.ownBlock = some g → u.ownBlock ≠ some g := by
    intro g hg hu
    rcases ha3 with h | h
    · exact hne g (h ▸ hg) hu
    · rw [h] at hg; injection hg with hg
      have h1 := hul g hu
      have h2 := hal.size
      omega
  refine ⟨own_chg (ho3.alloc _) (grown_chg hg4) fun g hg hu => hv3u g hg hu, fun g hg hu => ?_, ?_, ?_⟩
  · rcases ha4 with h | h
    · exact hv3u g hg (h ▸ hu)
    · rw [h] at hu; injection hu with hu
      have := own_row_lt ho3 g hg
      simp at hu; omega
  · rw [take_snoc hp]; exact hf3
  · have b1 : Below B0 wr w3 := (hal.mono hle).grown hg3 (Nat.le_trans hle hal.size) fun g hg => (World.ownsRow.lt hov g hg).1
    have b2 : Below B0 wr (w3.alloc (.cells #[.slice A2 p.length c2] e)) := b1.alloc (Nat.le_trans hle b1.size) _
    exact b2.grown hg4 (Nat.le_trans hle b2.size) fun g hg => (World.ownsRow.lt hou g hg).1
/-- Behind the last append: the cut lists and one more. -/
def BuildsEnd (w1 wr w4 : World) (v v4 : Value) (k : Nat) (vs : List Value) (ks : List (List UInt8)) (e : TypeId) : Prop :=
  ∃ (A4 : Option Addr) (c4 : Nat) (xs : List Value), v4 = Value.slice A4 (k + 1) c4 ∧ Reads w4 w4.heap.size 1 A4 (k + 1) xs ∧ k + 1 ≤ c4 ∧ c4 ≤ 9223372036854775807 ∧ Below w1.heap.size wr w4 ∧ w4.ownsRow w1.heap.size e 1 v k vs ∧
    (∀ (i : Nat) (p : List UInt8), ks[i]? = some p → ∃ (a : Option Addr) (c : Nat), vs[i]? = some (Value.slice a (p.length + 5) c) ∧ xs[i]? = some (Value.slice a p.length c) ∧ Sl w4 a (p.length + 5) c (p ++ mkB)) ∧ (∃ a : Option Addr, xs[k]? = some (Value.slice a 1 1)) ∧ RBs w4 w4.heap.size A4 k ks
theorem builds_end {T e : TypeId} {k : Nat} {w1 wr w4 : World} {v u v4 : Value} {vs us : List Value} {ks : List (List UInt8)} (hk : ks.length = k) (hov : wr.ownsRow w1.heap.size e 1 v k vs) (hou : wr.ownsRow w1.heap.size e 1 u k us) (hne : ∀ g, v.ownBlock = some g → u.ownBlock ≠ some g)
    (hf : FamW wr v.ownBlock u.ownBlock vs us ks) (hown : w4.ownsRow w1.heap.size e 1 v4 (k + 1) (us ++ [.slice (some ⟨wr.heap.size, 0, none⟩) 1 1]))
    (hg : ((wr.alloc (.cells #[.int .u8 77] T)).alloc (.cells #[.slice (some ⟨wr.heap.size, 0, none⟩) 1 1] e)).grownBy w4 u.ownBlock) (hat : v4.ownBlock = u.ownBlock ∨ v4.ownBlock = some ((wr.alloc (.cells #[.int .u8 77] T)).alloc (.cells #[.slice (some ⟨wr.heap.size, 0, none⟩) 1 1] e)).heap.size) (hle : w1.heap.size ≤ wr.heap.size) :
    BuildsEnd w1 wr w4 v v4 k vs ks e := by
  have hb2 : Below wr.heap.size wr ((wr.alloc (.cells #[.int .u8 77] T)).alloc (.cells #[.slice (some ⟨wr.heap.size, 0, none⟩) 1 1] e)) := ((Below.refl _ _).alloc (Nat.le_refl _) _).alloc (by simp) _
  have hbw : Below w1.heap.size wr w4 := (hb2.mono hle).grown hg (Nat.le_trans hle hb2.size) (fun g hg => (World.ownsRow.lt hou g hg).1)
  have hf2 := (hf.later hb2).step2 hg hat
  obtain ⟨A4, c4, e4, hl1, hl2, _, hrl⟩ := own_slice hown
  have hul : us.length = k := by rw [hf.2.1, hk]
  refine ⟨A4, c4, _, e4, hrl, hl1, hl2, hbw, own_chg (own_below hov hb2) (grown_chg hg) fun g hg hu => hne g hg hu, fun i p hp => ?_, ⟨some ⟨wr.heap.size, 0, none⟩, ?_⟩, ?_⟩
  · obtain ⟨a, c, q1, q2, q3, _⟩ := hf2.2.2 i p hp
    refine ⟨a, c, q1, ?_, q3⟩
    rw [List.getElem?_append_left (by have := (List.getElem?_eq_some_iff.1 q2).1; exact this)]
    exact q2
  · rw [List.getElem?_append_right (by omega), hul, Nat.sub_self]; rfl
  · have h := hrl.take1 (m := k) (by omega)
    rw [List.take_left' hul] at h
    exact hf2.kv.rbs h

theorem flat_take_leB (ks : List (List UInt8)) (k : Nat) : (ks.take k).flatten.length ≤ ks.flatten.length := by
  have e := congrArg List.length (congrArg List.flatten (List.take_append_drop k ks))
  rw [List.flatten_append, List.length_append] at e
  omega
theorem flat_at_leB {ks : List (List UInt8)} {k : Nat} {x : List UInt8} (h : ks[k]? = some x) : x.length ≤ ks.flatten.length := by
  have := flat_take_leB ks (k + 1)
  have e : ([x] : List (List UInt8)).flatten = x := by simp
  rw [take_snoc h, List.flatten_append, List.length_append, e] at this
  omega
theorem keys_lie {w : World} {A : Option Addr} {n : Nat} {ks : List (List UInt8)} (h : RBs w w.heap.size A n ks) : ∀ k, k < n → ∃ b o p a c, A = some ⟨b, o, none⟩ ∧ ks[k]? = some p ∧ ∀ w', Below w.heap.size w w' → w'.cell? ⟨b, o + k, none⟩ = some (.slice a p.length c) ∧ Sl w' a p.length c p := fun k hk => by
  obtain ⟨b, o, p, a, c, e, hb, hp, hc, h1, h2, h3, h4⟩ := h.at_ hk
  exact ⟨b, o, p, a, c, e, hp, fun w' hb' => ⟨(hb'.cell (p := ⟨b, o + k, none⟩) hb).trans hc, (Sl.mk h4 h1 h2 h3).later hb'⟩⟩
theorem keep4B {w x y : World} {p q r s : Addr} {u v t z : Value} (h : x.cell? p = some u ∧ x.cell? q = some v ∧ x.cell? r = some t ∧ x.cell? s = some z ∧ Below w.heap.size w x) (hb : Below x.heap.size x y) : y.cell? p = some u ∧ y.cell? q = some v ∧ y.cell? r = some t ∧ y.cell? s = some z ∧ Below w.heap.size w y :=
  ⟨(hb.cell (World.block_lt_of_cell? x p h.1)).trans h.1, (hb.cell (World.block_lt_of_cell? x q h.2.1)).trans h.2.1, (hb.cell (World.block_lt_of_cell? x r h.2.2.1)).trans h.2.2.1, (hb.cell (World.block_lt_of_cell? x s h.2.2.2.1)).trans h.2.2.2.1, h.2.2.2.2.trans (hb.mono h.2.2.2.2.size)⟩
theorem builds_mid {e : TypeId} {B0 k : Nat} {wr w2 w3 : World} {v : Value} {vs : List Value} {o : Obj} (hov : wr.ownsRow B0 e 1 v k vs) (hb2 : Below wr.heap.size wr w2) (hg3 : (w2.alloc o).grownBy w3 v.ownBlock) (hle : B0 ≤ wr.heap.size) : Below B0 wr w3 :=
  ((hb2.mono hle).alloc (Nat.le_trans hle hb2.size) o).grown hg3 (by have := hb2.size; simp; omega) fun g hg => (World.ownsRow.lt hov g hg).1
theorem builds_other {e : TypeId} {B0 k : Nat} {wr w2 w3 : World} {v u : Value} {us : List Value} {o : Obj} (hou : wr.ownsRow B0 e 1 u k us) (hne : ∀ g, v.ownBlock = some g → u.ownBlock ≠ some g) (hb2 : Below wr.heap.size wr w2) (hg3 : (w2.alloc o).grownBy w3 v.ownBlock) : w3.ownsRow B0 e 1 u k us :=
  own_chg ((own_below hou hb2).alloc _) (grown_chg hg3) fun g hg hu => hne g hu hg
/-- What the second loop needs of the rows. -/
theorem builds_lie {w1 wr w4 : World} {v v4 : Value} {k : Nat} {vs : List Value} {ks : List (List UInt8)} {e : TypeId} (h : BuildsEnd w1 wr w4 v v4 k vs ks e) (hl : ks.length = k) : ∃ (b4 o4 c4 : Nat) (VA : Option Addr) (vc : Nat), v4 = .slice (some ⟨b4, o4, none⟩) (k + 1) c4 ∧ v = .slice VA k vc ∧ k + 1 ≤ c4 ∧ c4 ≤ 9223372036854775807 ∧ Below w1.heap.size wr w4 ∧ RBs w4 w4.heap.size (some ⟨b4, o4, none⟩) k ks ∧
    (∃ a7, ∀ x, Below w4.heap.size w4 x → x.cell? ⟨b4, o4 + k, none⟩ = some (.slice a7 1 1)) ∧
    (∀ j, j < k → ∃ b5 o5 p a c, VA = some ⟨b5, o5, none⟩ ∧ ks[j]? = some p ∧ ∀ x, Below w4.heap.size w4 x → x.cell? ⟨b5, o5 + j, none⟩ = some (.slice a (p.length + 5) c) ∧ x.cell? ⟨b4, o4 + j, none⟩ = some (.slice a p.length c) ∧ Sl x a (p.length + 5) c (p ++ mkB)) := by
  obtain ⟨A4, c4, xs, rfl, hrl, h1, h2, hb, hov, hx, ⟨a7, h7⟩, hrb⟩ := h
  obtain ⟨b4, o4, rfl, hlt4, hc4⟩ := hrl.2 (by omega)
  obtain ⟨VA, vc, rfl, _, _, _, hrv⟩ := own_slice hov
  have hc : ∀ x, Below w4.heap.size w4 x → ∀ (j : Nat) (u : Value), xs[j]? = some u → x.cell? ⟨b4, o4 + j, none⟩ = some u := fun x hx j u hu => (hx.cell (p := ⟨b4, o4 + j, none⟩) hlt4).trans (hc4 j u hu)
  refine ⟨b4, o4, c4, VA, vc, rfl, rfl, h1, h2, hb, hrb, ⟨a7, fun x hx => hc x hx _ _ h7⟩, fun j hj => ?_⟩
  have hp : ks[j]? = some (ks[j]'(by omega)) := List.getElem?_eq_getElem (by omega)
  obtain ⟨a, c, q1, q2, q3⟩ := hx j _ hp
  obtain ⟨b5, o5, rfl, hlt5, hc5⟩ := hrv.2 (by omega)
  exact ⟨b5, o5, _, a, c, rfl, hp, fun x hx => ⟨(hx.cell (p := ⟨b5, o5 + j, none⟩) hlt5).trans (hc5 j _ q1), hc x hx _ _ q2, q3.later hx⟩⟩

set_option maxRecDepth 100000 in
set_option maxHeartbeats 8000000 in
theorem builds_any (N : Int) (ks : List (List UInt8)) (KA A G : Option Addr) (kn kc n c m d : Nat) (w : World) (hk : RBs w w.heap.size KA kn ks) (hkn : kn ≤ 1048576) (hkb : ks.flatten.length ≤ 1048576) :
    Calls Try.prog 44 #[.agg #[.int .i64 1, .int .i64 N, .slice KA kn kc, .slice A n c, .slice G m d]] w fun e w' => e = .returned (.bool true) ∧ Below w.heap.size w w' := by
  have HB0 := Lib.hid ((Below.refl w.heap.size w).alloc (Nat.le_refl _) (.cells #[.int .i64 1, .int .i64 N, .slice KA kn kc, .slice A n c, .slice G m d] 45))
  have HX := box5 w #[.int .i64 1, .int .i64 N, .slice KA kn kc, .slice A n c, .slice G m d] 45 _ _ _ _ _ rfl
  have HK : Hid (∀ w', Below w.heap.size w w' → RBs w' w'.heap.size KA kn ks) := Lib.hid fun w' h => hk.later h
  have HKC := Lib.hid (keys_lie hk)
  have HKL := Lib.hid hk.len
  have HKB : Hid (∀ (k : Nat) (x : List UInt8), ks[k]? = some x → x.length ≤ 1048576) := Lib.hid fun k x h => Nat.le_trans (flat_at_leB h) hkb
  obtain ⟨gb, hgb⟩ : ∃ g, g = w.heap.size := ⟨_, rfl⟩
  clear hk hkb
  go_enter Try.func44, Try.ntmps44
  go_wp2_with fail
  have HX1 := Lib.hid (fun x (h : Below (w.alloc (.cells #[.int .i64 1, .int .i64 N, .slice KA kn kc, .slice A n c, .slice G m d] 45)).heap.size (w.alloc (.cells #[.int .i64 1, .int .i64 N, .slice KA kn kc, .slice A n c, .slice G m d] 45)) x) => HX.out x h)
  rw [← hgb] at HX1 ⊢
  generalize hw1 : w.alloc _ = w1 at *
  clear hw1 hgb HX
  go_loopw [3, 4, 5] (fun u v i wr => ∃ (k : Nat) (vs us : List Value), k ≤ kn ∧ i = .int .i64 k ∧ wr.ownsRow w1.heap.size 24 1 v k vs ∧ wr.ownsRow w1.heap.size 24 1 u k us ∧ Hid (∀ g, v.ownBlock = some g → u.ownBlock ≠ some g) ∧ Hid (FamW wr v.ownBlock u.ownBlock vs us (ks.take k)) ∧ Hid (Below w1.heap.size w1 wr)) (fun _ _ i _ => kn - (intOf i).toNat)
  case atStart => exact ⟨0, [], [], Nat.zero_le _, rfl, own_nil _ _ _ _, own_nil _ _ _ _, Lib.hid (fun g hg => by cases hg), Lib.hid (by rw [List.take_zero]; exact FamW.nil), Lib.hid (Below.refl _ _)⟩
  case round =>
    obtain ⟨k, vs, us, hk, rfl, hownv, hownu, HNE, HF, HW⟩ := hrel
    obtain ⟨x0, x1, x2, x3, x4⟩ := HX1.out wr HW.out
    have HBW := Lib.hid (HB0.out.trans (HW.out.mono HB0.out.size))
    obtain ⟨v, hv⟩ : ∃ v, v = u4 := ⟨_, rfl⟩
    obtain ⟨u, hu⟩ : ∃ v, v = u3 := ⟨_, rfl⟩
    rw [← hv] at hownv HNE HF ⊢
    rw [← hu] at hownu HNE HF ⊢
    have HOV := Lib.hid hownv
    have HOU := Lib.hid hownu
    clear hv hu hownv hownu
    by_cases hlt : k < kn
    case neg =>
      obtain rfl : k = kn := by omega
      have hF0 := HF.out
      rw [take_all (by have := HKL.out; omega)] at hF0
      have HF0 := Lib.hid hF0
      have tok1 : True := trivial
      obtain ⟨E, hE⟩ : ∃ E, E = buildE N ks := ⟨_, rfl⟩
      obtain ⟨U, hU⟩ : ∃ U, U = bres N ks := ⟨_, rfl⟩
      obtain ⟨L, hL⟩ : ∃ L, L = U.length := ⟨_, rfl⟩
      have XE := Lib.hid hE
      have XU := Lib.hid hU
      have XL := Lib.hid hL
      have XS : Hid ((U == U) = true) := Lib.hid (by simp)
      have q2 : ((E : Int) == (E : Int)) = true := by simp
      clear hF0 HF hE hU hL
      go_upto_region 9 with (first
        | (at_builtin; go_must (refine wpList_append_reads _ rfl (.tmp 41) (.tmp 43) rfl Try.keyss w1.heap.size u k us rfl ((HOU.out.alloc _).alloc _) (wr.heap.size + 1 + 1) (some ⟨wr.heap.size + 1, 0, none⟩) 1 1 [.slice (some ⟨wr.heap.size, 0, none⟩) 1 1] rfl (lit_one8 _ _ _ _ (by simp)) (by simp [Value.oneCell']) (by unfold maxLen; omega) (by omega) (by have := HW.out.size; simp; omega) ?_); intro v4 w4 hown4 hg4 hat4; have HA := builds_lie (builds_end HKL.out HOV.out HOU.out HNE.out HF0.out hown4 hg4 hat4 HW.out.size) HKL.out; obtain ⟨b4, o4, c4, VA, vc, rfl, rfl, hl1, hl2, hb4, hrb, ⟨a7, h7⟩, hlie⟩ := HA; have HB4 := Lib.hid (HW.out.trans hb4); have HRB := Lib.hid hrb; have H7 := Lib.hid h7; have HLIE := Lib.hid hlie; obtain ⟨y0, y1, y2, y3, y4⟩ := HX1.out w4 HB4.out; clear hown4 hg4 hat4 hb4 hrb h7 hlie x0 x1 x2 x3 x4))
      have hk4 : (k : Int) ≤ (c4 : Int) := by omega
      have HXX := Lib.hid (fun x (h : Below w4.heap.size w4 x) => HX1.out x (HB4.out.trans (h.mono HB4.out.size)))
      have HBX := Lib.hid (fun x (h : Below w4.heap.size w4 x) => HB0.out.trans ((HB4.out.trans (h.mono HB4.out.size)).mono HB0.out.size))
      clear HOV HOU HNE HF0 HBW HW
      go_region_held3 (fun w' => w'.cell? ⟨gb, 1, none⟩ = some (.int .i64 N) ∧ w'.cell? ⟨gb, 2, none⟩ = some (.slice KA k kc) ∧ Below w4.heap.size w4 w') (first | assumption | exact ⟨y1, y2, (Below.refl _ _).drew⟩ | exact keep2B ‹_› hb5) (first
        | (go_at_call 13; refine (build_any N ks (some ⟨b4, o4, none⟩) k c4 _ (by omega) (HRB.out.later (And.right (And.right ‹_ ∧ _ ∧ Below w4.heap.size w4 _›)))).mono ?_; rintro e w5 hp; have hp := build_post hp; rw [← XE.out, ← XU.out] at hp; obtain ⟨A5, c5, rfl, hS5, _, hb5⟩ := hp.at_ XL.out.symm rfl))
      all_goals
        obtain ⟨t1, t2, hbz⟩ := ‹_ ∧ _ ∧ Below w4.heap.size w4 w5›
        have HBZ := Lib.hid hbz
        have HS5 := Lib.hid hS5
        clear hbz hS5 y0 y1 y2 y3 y4
        go_wp2_with (first
          | (go_at_call 26; go_must (refine (rbuild_any N ks KA k kc _ (by omega) (HK.out _ (HBX.out _ HBZ.out))).mono ?_); rintro e w6 hp; rw [← XE.out, ← XU.out] at hp; obtain ⟨A6, c6, rfl, hS6, _, hb6⟩ := hp.at_ XL.out.symm rfl; have HB6 := Lib.hid (HBZ.out.trans (hb6.mono HBZ.out.size)); have HS6 := Lib.hid hS6; have HR6 := Lib.hid (HS5.out.later hb6); have h7 := H7.out w6 HB6.out; obtain ⟨v0, v1, v2, v3, v4⟩ := HXX.out w6 HB6.out; clear hb6 hS6 hp t1 t2)
          | (go_at_call 15; go_must (refine (alike_any U U A5 A6 L c5 L c6 _ HR6.out.rb HS6.out.rb).mono ?_); rw [XS.out]; rintro e wn ⟨rfl, rfl⟩)
          | (go_at_call 14; refine (num_any _ _).mono ?_; rintro e wn ⟨rfl, rfl⟩))
        clear HS5 HS6 HR6 h7 v0 v1 v2 v3 v4
        go_loopw [11, 12] (fun s i wr => s = .bool true ∧ ∃ j : Nat, j ≤ k ∧ i = .int .i64 j ∧ Hid (Below w4.heap.size w4 wr)) (fun _ i _ => k - (intOf i).toNat)
        case atStart => exact ⟨rfl, 0, Nat.zero_le _, rfl, HB6⟩
        case round =>
          obtain ⟨rfl, j, hj, rfl, HW⟩ := hrel
          obtain ⟨x0, x1, x2, x3, x4⟩ := HXX.out wr HW.out
          by_cases hlt : j < k
          case neg =>
            go_wp2_with fail
            go_ret
            exact ⟨rfl, HBX.out wr HW.out⟩
          obtain ⟨b, o, p, a, cp, rfl, hp, hcc⟩ := HKC.out j hlt
          obtain ⟨b5, o5, p', a', c', rfl, hp', hll⟩ := HLIE.out j hlt
          obtain rfl : p = p' := by rw [hp] at hp'; injection hp'
          have hpl := HKB.out j p hp
          obtain ⟨q, hq⟩ : ∃ q, q = p.length := ⟨_, rfl⟩
          obtain ⟨RP, hRP⟩ : ∃ R, R = p ++ mkB := ⟨_, rfl⟩
          have XRP := Lib.hid hRP
          have XQ := Lib.hid hq
          have XS : Hid ((p == p) = true) := Lib.hid (by simp)
          rw [← hq] at hcc hpl hll
          rw [← hRP] at hll
          have hcp := (hcc wr (HBX.out wr HW.out)).1
          have hci := (hll wr HW.out).2.1
          have hcw := (hll wr HW.out).1
          have HSL : Hid (∀ x, Below wr.heap.size wr x → Sl x a' (q + 5) c' RP ∧ Sl x a q cp p ∧ Sl x a' q c' p) := Lib.hid fun x hx => by
            have h1 := (hll wr HW.out).2.2
            exact ⟨h1.later hx, (hcc wr (HBX.out wr HW.out)).2.later hx, wide_cut h1 hq.symm hRP hx⟩
          have hj1 : (j : Int) < (k : Int) + 1 := by omega
          have hj2 : (j : Int) < (k : Int) := by omega
          have hj3 : (0 : Int) ≤ (j : Int) := by omega
          have hj4 : j < k + 1 := by omega
          clear hq hRP hcc hll hp hp'
          go_wp2_with fail
          go_region_held3 (fun w' => w'.cell? ⟨gb, 2, none⟩ = some (.slice (some ⟨b, o, none⟩) k kc) ∧ w'.cell? ⟨b, o + j, none⟩ = some (.slice a q cp) ∧ w'.cell? ⟨b4, o4 + j, none⟩ = some (.slice a' q c') ∧ w'.cell? ⟨b5, o5 + j, none⟩ = some (.slice a' (q + 5) c') ∧ Below wr.heap.size wr w') (first | assumption | exact ⟨x2, hcp, hci, hcw, (Below.refl _ _).drew⟩ | exact keep4B ‹_› hb8) (first
            | (go_at_call 31; refine (kept_any p RP a' a q c' cp _ XRP.out (HSL.out _ (And.right (And.right (And.right (And.right ‹_ ∧ _ ∧ _ ∧ _ ∧ Below wr.heap.size wr _›))))).1 (HSL.out _ (And.right (And.right (And.right (And.right ‹_ ∧ _ ∧ _ ∧ _ ∧ Below wr.heap.size wr _›))))).2.1 (by omega)).mono ?_; rintro e w8 ⟨rfl, hb8⟩)
            | (go_at_call 15; refine (alike_any p p a' a q c' q cp _ (HSL.out _ (And.right (And.right (And.right (And.right ‹_ ∧ _ ∧ _ ∧ _ ∧ Below wr.heap.size wr _›))))).2.2.rb (HSL.out _ (And.right (And.right (And.right (And.right ‹_ ∧ _ ∧ _ ∧ _ ∧ Below wr.heap.size wr _›))))).2.1.rb).mono ?_; rw [XS.out]; rintro e wn ⟨rfl, rfl⟩))
          all_goals
            have HB9 := Lib.hid (And.right (And.right (And.right (And.right ‹_ ∧ _ ∧ _ ∧ _ ∧ Below wr.heap.size wr _›))))
            go_wp2_with fail
            go_roundw
            case rel => exact ⟨rfl, j + 1, by omega, by go_num, Lib.hid (HW.out.trans (HB9.out.mono HW.out.size))⟩
            case measure => simp [intOf]; omega
    obtain ⟨b, o, p, a, cp, rfl, hp, hcc⟩ := HKC.out k hlt
    have hpl := HKB.out k p hp
    obtain ⟨q, hq⟩ : ∃ q, q = p.length := ⟨_, rfl⟩
    obtain ⟨RP, hRP⟩ : ∃ R, R = p ++ mkB := ⟨_, rfl⟩
    have XRP := Lib.hid hRP
    have XQ := Lib.hid hq
    have XPL : Hid (RP.length = q + 5) := Lib.hid (by rw [hRP, List.length_append, hq]; rfl)
    rw [← hq] at hcc hpl
    have HCC := Lib.hid hcc
    have HKP := Lib.hid hp
    have hcp := (HCC.out wr HBW.out).1
    have tok1 : True := trivial
    clear hq hRP hcc hp
    go_wp2_with (first
      | (go_at_call 25; go_must (refine (wide_any p a q cp _ (by omega) (HCC.out wr HBW.out).2.rb).mono ?_); rintro e w2 hz; rw [← XRP.out] at hz; obtain ⟨A2, c2, rfl, hS2, hO2, hb2⟩ := hz.at_ XPL.out; have HB2 := Lib.hid hb2; have HS2 := Lib.hid hS2; have HO2 := Lib.hid hO2; have HBW2 := Lib.hid (HBW.out.trans (hb2.mono HBW.out.size)); have hcp2 := (HCC.out w2 HBW2.out).1; have hc2 := hS2.cap; obtain ⟨y0, y1, y2, y3, y4⟩ := HX1.out w2 (HW.out.trans (hb2.mono HW.out.size)); clear hz hS2 hO2 hb2 hcp x0 x1 x2 x3 x4)
      | (at_builtin; have _t := tok1; go_must (refine wpList_append_reads _ rfl (.tmp 26) (.tmp 28) rfl Try.keyss w1.heap.size v k vs rfl ((own_below HOV.out HB2.out).alloc _) (w2.heap.size + 1) (some ⟨w2.heap.size, 0, none⟩) 1 1 [.slice A2 (q + 5) c2] rfl (lit_one8 _ _ _ _ rfl) (by simp [Value.oneCell']) (by unfold maxLen; omega) (by omega) (by have := HW.out.size; have := HB2.out.size; simp; omega) ?_); intro v3 w3 hown3 hg3 hat3; clear tok1; have HO3 := Lib.hid hown3; have HG3 := Lib.hid hg3; have HA3 := Lib.hid hat3; have HB3 := Lib.hid (HW.out.trans (builds_mid HOV.out HB2.out hg3 HW.out.size)); have HU3 := Lib.hid (builds_other HOU.out HNE.out HB2.out hg3); have HBW3 := Lib.hid (HB0.out.trans (HB3.out.mono HB0.out.size)); have hcp3 := (HCC.out w3 HBW3.out).1; obtain ⟨z0, z1, z2, z3, z4⟩ := HX1.out w3 HB3.out; clear hown3 hg3 hat3 hcp2 y0 y1 y2 y3 y4)
      | (at_builtin; go_must (refine wpList_append_reads _ rfl (.tmp 30) (.tmp 39) rfl Try.keyss w1.heap.size u k us rfl (HU3.out.alloc _) (w3.heap.size + 1) (some ⟨w3.heap.size, 0, none⟩) 1 1 [.slice A2 q c2] rfl (lit_one8 _ _ _ _ rfl) (by simp [Value.oneCell']) (by unfold maxLen; omega) (by omega) (by have := HB3.out.size; simp; omega) ?_); intro u4 w4 hown4 hg4 hat4; have HST := Lib.hid (builds_step HKP.out XRP.out XQ.out HOV.out HOU.out HNE.out HF.out HB2.out HS2.out HO2.out HO3.out HG3.out HA3.out hg4 hat4 HW.out.size); have HO4 := Lib.hid hown4; clear hown4 hg4 hat4))
    have hov := HST.out.1
    have hou := HO4.out
    clear HO4
    go_roundw
    case rel => exact ⟨k + 1, _, _, by omega, by go_num, hov, hou, Lib.hid HST.out.2.1, Lib.hid HST.out.2.2.1, Lib.hid (HW.out.trans HST.out.2.2.2)⟩
    case measure => simp [intOf]; omega
end Go.Proofs.Ythjjihipodhkiaa
