/-
  A script of calls that came in, within the bound.
-/
import Derived.Test.YtbcljgcilbfblaaDoorWireV3
import Derived.Test.YtbcljgcilbfblaaDoorWireLaw
namespace Go.Proofs.YtbcljgcilbfblaaDoor
open Go.RowKit Go.WideShapes Go.ChangeShapes Go.Joins Go.Deep

section
variable {H : Type} {enc : TypeId × Value → H} {w : World} {base : Nat} {held : Bool}
theorem upto_scr {fuel : Nat} {cs : List Value} {x : DataW H × List MemPlace} (h : DataW.trod enc Tryd.prog w base (fun _ => true) held fuel 22 cs = some x) (hb : Rows.uptoBulk x.1 ≤ 1048576) :
    ∃ (A : Option Addr) (n c : Nat), cs = [.slice A n c] ∧ n ≤ c ∧ c ≤ 1048576 ∧ Scr w A n := by
  rcases upto_structs Tryd.underlying22 Tryd.underlying32 (by kernel_rfl) (by kernel_rfl) h with rfl | ⟨a, len, cap, rfl, hl, hm, hc, hi⟩
  · exact ⟨none, 0, 0, rfl, by omega, by omega, fun h => absurd h (by omega)⟩
  · refine ⟨some a, len, cap, rfl, hl, by omega, fun hn => ?_⟩
    obtain ⟨v, y, n, c0, _⟩ := hi 0 hn 0 _ rfl
    have c0' : w.cell? (a.add 0) = some v := c0
    rw [show a.add 0 = a from by simp [Addr.add]] at c0'
    have hsp := spot_none c0'
    have hb0 := World.block_lt_of_cell? w a c0'
    refine ⟨a.block, a.off, by obtain ⟨b, o, sp⟩ := a; simp at hsp; subst hsp; rfl, hb0, fun i him => ?_⟩
    obtain ⟨v0, y0, n0, c0, t0, _⟩ := hi i him 0 _ rfl
    obtain ⟨v1, y1, n1, c1, t1, u1⟩ := hi i him 1 _ rfl
    obtain ⟨v2, y2, n2, c2, t2, _⟩ := hi i him 2 _ rfl
    obtain ⟨v3, y3, n3, c3, t3, _⟩ := hi i him 3 _ rfl
    obtain ⟨v4, y4, n4, c4, t4, _⟩ := hi i him 4 _ rfl
    obtain ⟨v5, y5, n5, c5, t5, u5⟩ := hi i him 5 _ rfl
    obtain ⟨K, rfl, _⟩ := field_int Tryd.underlying3 t0
    obtain ⟨A, m, c, l, rfl, hs, hsb⟩ := field_bytes Tryd.underlying25 Tryd.underlying5 (by kernel_rfl) t1
    obtain ⟨at_, rfl, _⟩ := field_int Tryd.underlying3 t2
    obtain ⟨N, rfl, hN⟩ := field_int Tryd.underlying3 t3
    obtain ⟨V, rfl, hV⟩ := field_int Tryd.underlying29 t4
    obtain ⟨PA, pn, pc, ks, rfl, hp1, _, _, hp2, hpb⟩ := field_keys Tryd.underlying30 Tryd.underlying25 Tryd.underlying5 (by kernel_rfl) (by kernel_rfl) t5
    rw [addr_add _ _ hsp] at c0 c1 c2 c3 c4 c5
    have hcap := hs.cap
    exact ⟨K, at_, N, V, l, ks, A, PA, m, c, pn, pc, c0, c1, c2, c3, c4, c5, hs, hp2, hp1, by omega, by omega, by omega, u64_wf hV, i64_wf hN⟩
theorem upto_scr_top {r : Reach} {b0 : Nat} {v : Value} {d : DataW H} {ps : List MemPlace} (hval : Value.okWide Tryd.prog w r b0 22 v) (h : DataW.Trod enc Tryd.prog w base (fun _ => true) held 22 v d ps) (hb : Rows.uptoBulk d ≤ 1048576) :
    ∃ (A : Option Addr) (n c : Nat), v = .slice A n c ∧ n ≤ 1048576 ∧ Scr w A n := by
  obtain ⟨fuel, hf⟩ := open_slice_top Tryd.underlying22 hval h
  obtain ⟨A, n, c, h1, h2, h3, h4⟩ := upto_scr hf hb
  injection h1 with h1
  exact ⟨A, n, c, h1, by omega, h4⟩
end
end Go.Proofs.YtbcljgcilbfblaaDoor
