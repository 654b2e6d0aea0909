/-
  The statements' roomy, plays, walked.
-/
import Derived.Test.YtbcljgcilbfblaaDoorWireV1
import Derived.Test.YtbcljgcilbfblaaDoorKitA
import Derived.Deep.DeepCutAuto
import Derived.Outline
import Derived.Deep.CutBlock
namespace Go.Proofs.YtbcljgcilbfblaaDoor
open Go.RowKit

theorem Tryd.pts : SliceOf Tryd.prog 30 25 1 24 := SliceOf.mk' (z := .slice none 0 0) Tryd.underlying30 (by kernel_rfl) rfl (by decide)
/-- The five marks. -/
def mk5 : List UInt8 := [201, 202, 203, 204, 205]
theorem mk5_len : mk5.length = 5 := rfl

theorem box_all (w : World) (C : Array Value) (t : TypeId) (u0 u1 u2 u3 u4 u5 : Value) (h : C = #[u0, u1, u2, u3, u4, u5]) :
    Hid (∀ x, Below (w.alloc (.cells C t)).heap.size (w.alloc (.cells C t)) x → x.cell? ⟨w.heap.size, 0, none⟩ = some u0 ∧ x.cell? ⟨w.heap.size, 1, none⟩ = some u1 ∧ x.cell? ⟨w.heap.size, 2, none⟩ = some u2 ∧ x.cell? ⟨w.heap.size, 3, none⟩ = some u3 ∧ x.cell? ⟨w.heap.size, 4, none⟩ = some u4 ∧ x.cell? ⟨w.heap.size, 5, none⟩ = some u5) := Lib.hid fun x hb => by
  subst h
  exact ⟨(hb.cell (p := ⟨w.heap.size, 0, none⟩) (by simp)).trans (by simp), (hb.cell (p := ⟨w.heap.size, 1, none⟩) (by simp)).trans (by simp), (hb.cell (p := ⟨w.heap.size, 2, none⟩) (by simp)).trans (by simp), (hb.cell (p := ⟨w.heap.size, 3, none⟩) (by simp)).trans (by simp), (hb.cell (p := ⟨w.heap.size, 4, none⟩) (by simp)).trans (by simp), (hb.cell (p := ⟨w.heap.size, 5, none⟩) (by simp)).trans (by simp)⟩

theorem flat_take_le (ks : List (List UInt8)) (k : Nat) : (ks.take k).flatten.length ≤ ks.flatten.length := by
  have e := congrArg List.length (congrArg List.flatten (List.take_append_drop k ks))
  rw [List.flatten_append, List.length_append] at e
  omega
theorem flat_at_le {ks : List (List UInt8)} {k : Nat} {x : List UInt8} (h : ks[k]? = some x) : x.length ≤ ks.flatten.length := by
  have := flat_take_le ks (k + 1)
  have e : ([x] : List (List UInt8)).flatten = x := by simp
  rw [take_snoc h, List.flatten_append, List.length_append, e] at this
  omega

theorem lit_one (w : World) (u : Value) (t : TypeId) (H : Nat) (h : w.heap.size = H) : Reads (w.alloc (.cells #[u] t)) (H + 1) 1 (some ⟨H, 0, none⟩) 1 [u] := by
  subst h; exact Reads.new w #[u] t 1 1 rfl
/-- Behind the last append: the parts, each with its marks, and the one more. -/
def PlaysEnd (wr w1 w4 : World) (v4 : Value) (k : Nat) (ps : List (List UInt8)) : Prop :=
  ∃ (A4 : Option Addr) (c4 : Nat) (us : List Value), v4 = Value.slice A4 (k + 1) c4 ∧ Reads w4 w4.heap.size 1 A4 (k + 1) us ∧ k + 1 ≤ c4 ∧ c4 ≤ 9223372036854775807 ∧ Below w1.heap.size wr w4 ∧
    (∀ (i : Nat) (p : List UInt8), ps[i]? = some p → ∃ (a : Option Addr) (c : Nat), us[i]? = some (Value.slice a p.length c) ∧ Sl w4 a (p.length + 5) c (p ++ mk5)) ∧ (∃ a : Option Addr, us[k]? = some (Value.slice a 1 1) ∧ Sl w4 a 1 1 [207]) ∧ RBs w4 w4.heap.size A4 k ps
theorem plays_end (wr w1 : World) (v v4 : Value) (w4 : World) (k : Nat) (t e : TypeId) (vs : List Value) (ps : List (List UInt8)) (hk : ps.length = k) (ho : wr.ownsRow w1.heap.size e 1 v k vs) (hf : Fam wr v.ownBlock vs ps mk5)
    (hown : w4.ownsRow w1.heap.size e 1 v4 (k + 1) (vs ++ [.slice (some ⟨wr.heap.size, 0, none⟩) 1 1])) (hg : ((wr.alloc (.cells #[.int .u8 207] t)).alloc (.cells #[.slice (some ⟨wr.heap.size, 0, none⟩) 1 1] e)).grownBy w4 v.ownBlock)
    (hat : v4.ownBlock = v.ownBlock ∨ v4.ownBlock = some ((wr.alloc (.cells #[.int .u8 207] t)).alloc (.cells #[.slice (some ⟨wr.heap.size, 0, none⟩) 1 1] e)).heap.size) (hle : w1.heap.size ≤ wr.heap.size) : PlaysEnd wr w1 w4 v4 k ps := by
  have hb2 : Below wr.heap.size wr ((wr.alloc (.cells #[.int .u8 207] t)).alloc (.cells #[.slice (some ⟨wr.heap.size, 0, none⟩) 1 1] e)) := ((Below.refl _ _).alloc (Nat.le_refl _) _).alloc (by simp) _
  have hbw : Below w1.heap.size wr w4 := (hb2.mono hle).grown hg (Nat.le_trans hle hb2.size) (fun g hg => (World.ownsRow.lt ho g hg).1)
  have hm0 : Sl (wr.alloc (.cells #[.int .u8 207] t)) (some ⟨wr.heap.size, 0, none⟩) 1 1 [207] := Sl.lit wr #[.int .u8 207] [207] t (0, 0) rfl rfl (by decide)
  have hm1 := hm0.later ((Below.refl _ _).alloc (Nat.le_refl _) (.cells #[.slice (some ⟨wr.heap.size, 0, none⟩) 1 1] e))
  have hne : ∀ x, some (⟨wr.heap.size, 0, none⟩ : Addr) = some x → some x.block ≠ v.ownBlock := by
    intro x hx h
    injection hx with hx; subst hx
    have := own_row_lt ho _ h.symm
    simp at this
  have hm2 := hm1.apart hg (fun _ => hne)
  have hf2 := (hf.later hb2).step (by decide) hg hat
  obtain ⟨A4, c4, e4, hl1, hl2, _, hrl⟩ := own_slice hown
  have hvl : vs.length = k := by rw [hf.1, hk]
  refine ⟨A4, c4, _, e4, hrl, hl1, hl2, hbw, fun i p hp => ?_, ⟨some ⟨wr.heap.size, 0, none⟩, ?_, hm2⟩, ?_⟩
  · obtain ⟨a, c, q1, q2⟩ := hf2.at_ hp
    refine ⟨a, c, ?_, q2⟩
    rw [List.getElem?_append_left (by have := (List.getElem?_eq_some_iff.1 q1).1; exact this)]
    exact q1
  · rw [List.getElem?_append_right (by omega), hvl, Nat.sub_self]; rfl
  · have h := hrl.take1 (m := k) (by omega)
    rw [List.take_left' hvl] at h
    exact hf2.kv.rbs h

theorem plays_drew {w w7 : World} {n : Nat} (h : Below (w.drewN n).heap.size (w.drewN n) w7) : Below w.heap.size w w7 := (below_drewN (Below.refl w.heap.size w)).trans h
theorem plays_step (wr w1 : World) (v v3 : Value) (w2 w3 : World) (k : Nat) (e : TypeId) (vs : List Value) (ps : List (List UInt8)) (p RP : List UInt8) (A2 : Option Addr) (q c2 : Nat) {T : TypeId} (hp : ps[k]? = some p) (hRP : RP = p ++ mk5) (hq : q = p.length)
    (ho : wr.ownsRow w1.heap.size e 1 v k vs) (hf : Fam wr v.ownBlock vs (ps.take k) mk5) (hb2 : Below wr.heap.size wr w2) (hs2 : Sl w2 A2 (q + 5) c2 RP) (ho2 : OwnB T wr.heap.size w2 A2 c2 RP)
    (hg : (w2.alloc (.cells #[.slice A2 q c2] e)).grownBy w3 v.ownBlock) (hat : v3.ownBlock = v.ownBlock ∨ v3.ownBlock = some (w2.alloc (.cells #[.slice A2 q c2] e)).heap.size) (hle : w1.heap.size ≤ wr.heap.size) :
    Fam w3 v3.ownBlock (vs ++ [.slice A2 q c2]) (ps.take (k + 1)) mk5 ∧ Below w1.heap.size wr w3 := by
  subst hq; subst hRP
  have hb3 : Below wr.heap.size wr (w2.alloc (.cells #[.slice A2 p.length c2] e)) := hb2.alloc hb2.size _
  have hf2 := (hf.later hb3)
  have hs3 := hs2.later ((Below.refl _ _).alloc (Nat.le_refl _) (.cells #[.slice A2 p.length c2] e))
  have hf3 := hf2.snoc (c := c2) (a := A2) (k := p) hs3 (ho2.far (own_row_lt ho))
  have hf4 := hf3.step (by decide) hg hat
  rw [take_snoc hp]
  exact ⟨hf4, (hb3.mono hle).grown hg (Nat.le_trans hle hb3.size) (fun g hg => (World.ownsRow.lt ho g hg).1)⟩
theorem plays_wide {w1 w5 : World} {WA : Option Addr} {n wc : Nat} {l RL : List UInt8} (h : Sl w1 WA (n + 5) wc RL) (hl : l.length = n) (hr : RL = l ++ mk5) (hb : Below w1.heap.size w1 w5) : Sl w5 WA n wc l := by
  have := (h.later hb).take (m := n) (by omega)
  rw [hr, List.take_left' hl] at this
  exact this

end Go.Proofs.YtbcljgcilbfblaaDoor
