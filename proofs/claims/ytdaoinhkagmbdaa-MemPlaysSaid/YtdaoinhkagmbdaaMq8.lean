/-
  Laid together by merge.py: MemLaw, MemLaw4, MemLaw2, MemL5.
-/
import Derived.Test.YtdaoinhkagmbdaaMq2
import Derived.Test.YtdaoinhkagmbdaaMq7
import Derived.OpenShut
import Derived.Test.YtdaoinhkagmbdaaMq6
namespace Go.Proofs.Ytdaoinhkagmbdaa
open Go.RowKit Go.WideShapes Go.ChangeShapes Go.Joins Go.Deep
section
variable {H : Type} {enc : TypeId × Value → H} {w : World} {base : Nat} {held : Bool}
end
end Go.Proofs.Ytdaoinhkagmbdaa
namespace Go.Proofs.Ytdaoinhkagmbdaa
open Go.RowKit Go.WideShapes Go.ChangeShapes Go.Joins Go.Deep
def Stps (w : World) (A : Option Addr) (n : Nat) : Prop := 0 < n → ∃ b o, A = some ⟨b, o, none⟩ ∧ b < w.heap.size ∧ ∀ i, i < n → ∃ s : SR, w.rangeAt b (o + i * 17) [.int .i64 s.K, .bool s.O, .slice s.E.A s.E.e.row.length s.E.c, .int .i64 s.E.e.fam, .slice s.E.B s.E.e.qual.length s.E.d, .int .i64 s.E.e.ts, .int .i64 s.E.e.seq, .int .i64 s.E.e.kind, .slice s.E.D s.E.e.val.length s.E.q, .slice s.G.A s.G.e.row.length s.G.c, .int .i64 s.G.e.fam, .slice s.G.B s.G.e.qual.length s.G.d, .int .i64 s.G.e.ts, .int .i64 s.G.e.seq, .int .i64 s.G.e.kind, .slice s.G.D s.G.e.val.length s.G.q, .int .i64 s.N] ∧ s.E.En w ∧ s.G.En w
theorem Stps.later {w x : World} {A : Option Addr} {n : Nat} (h : Stps w A n) (hb : Below w.heap.size w x) : Stps x A n := fun hn => by
  obtain ⟨b, o, h1, h2, h3⟩ := h hn
  refine ⟨b, o, h1, Nat.lt_of_lt_of_le h2 hb.size, fun i hi => ?_⟩
  obtain ⟨s, h4, h5, h6⟩ := h3 i hi
  exact ⟨s, fun j v hv => cell_below hb (h4 j v hv), h5.later hb, h6.later hb⟩
section
variable {H : Type} {enc : TypeId × Value → H} {w : World} {base : Nat} {held : Bool}
set_option maxRecDepth 100000 in
theorem open_cells7 {spare : Nat → Bool} {fuel : Nat} {v0 v1 v2 v3 v4 v5 v6 : Value} {y : DataW H × List MemPlace} (hf : DataW.trod enc Try.prog w base spare held fuel 30 [v0, v1, v2, v3, v4, v5, v6] = some y) :
    ∃ r : ER, v0 = .slice r.A r.e.row.length r.c ∧ v1 = .int .i64 r.e.fam ∧ v2 = .slice r.B r.e.qual.length r.d ∧ v3 = .int .i64 r.e.ts ∧ v4 = .int .i64 r.e.seq ∧ v5 = .int .i64 r.e.kind ∧ v6 = .slice r.D r.e.val.length r.q ∧ r.En w := by
  have hB : Try.prog.cellsOf 28 = 1 := by kernel_rfl
  have hI : Try.prog.cellsOf 3 = 1 := by kernel_rfl
  have hU : Try.prog.cellsOf 5 = 1 := by kernel_rfl
  obtain ⟨xs, k, rfl, _, _, hlen, hi⟩ := DataW.trod_struct Try.underlying30 hf
  match xs, hlen with
  | [x0, x1, x2, x3, x4, x5, x6], _ =>
    have t0 : DataW.trod enc Try.prog w base spare held k 28 (([v0, v1, v2, v3, v4, v5, v6].drop 0).take (Try.prog.cellsOf 28)) = some x0 := hi 0 _ rfl
    have t1 : DataW.trod enc Try.prog w base spare held k 3 (([v0, v1, v2, v3, v4, v5, v6].drop 1).take (Try.prog.cellsOf 3)) = some x1 := hi 1 _ rfl
    have t2 : DataW.trod enc Try.prog w base spare held k 28 (([v0, v1, v2, v3, v4, v5, v6].drop 2).take (Try.prog.cellsOf 28)) = some x2 := hi 2 _ rfl
    have t3 : DataW.trod enc Try.prog w base spare held k 3 (([v0, v1, v2, v3, v4, v5, v6].drop 3).take (Try.prog.cellsOf 3)) = some x3 := hi 3 _ rfl
    have t4 : DataW.trod enc Try.prog w base spare held k 3 (([v0, v1, v2, v3, v4, v5, v6].drop 4).take (Try.prog.cellsOf 3)) = some x4 := hi 4 _ rfl
    have t5 : DataW.trod enc Try.prog w base spare held k 3 (([v0, v1, v2, v3, v4, v5, v6].drop 5).take (Try.prog.cellsOf 3)) = some x5 := hi 5 _ rfl
    have t6 : DataW.trod enc Try.prog w base spare held k 28 (([v0, v1, v2, v3, v4, v5, v6].drop 6).take (Try.prog.cellsOf 28)) = some x6 := hi 6 _ rfl
    rw [hB] at t0 t2 t6
    rw [hI] at t1 t3 t4 t5
    obtain ⟨A, c, l0, e0, p1, p2, p3, p4⟩ := open_bytes Try.underlying28 Try.underlying5 hU t0
    obtain ⟨B, z, l2, e2, q1, q2, q3, q4⟩ := open_bytes Try.underlying28 Try.underlying5 hU t2
    obtain ⟨D, q, l6, e6, s1, s2, s3, s4⟩ := open_bytes Try.underlying28 Try.underlying5 hU t6
    obtain ⟨i1, e1, _, _⟩ := DataW.trod_int Try.underlying3 t1
    obtain ⟨i3, e3, _, _⟩ := DataW.trod_int Try.underlying3 t3
    obtain ⟨i4, e4, _, _⟩ := DataW.trod_int Try.underlying3 t4
    obtain ⟨i5, e5, _, _⟩ := DataW.trod_int Try.underlying3 t5
    injection e0 with e0 _; injection e1 with e1 _; injection e2 with e2 _; injection e3 with e3 _; injection e4 with e4 _; injection e5 with e5 _; injection e6 with e6 _
    exact ⟨⟨A, c, B, z, D, q, ⟨l0, i1, l2, i3, i4, i5, l6⟩⟩, e0, e1, e2, e3, e4, e5, e6, sl_of p1 p2 p3 p4, sl_of q1 q2 q3 q4, sl_of s1 s2 s3 s4⟩
set_option maxRecDepth 100000 in
theorem open_cells17 {fuel : Nat} {cs : List Value} {y : DataW H × List MemPlace} (hl : cs.length = 17) (hf : DataW.trod enc Try.prog w base (fun _ => true) held fuel 72 cs = some y) :
    ∃ s : SR, cs = [.int .i64 s.K, .bool s.O, .slice s.E.A s.E.e.row.length s.E.c, .int .i64 s.E.e.fam, .slice s.E.B s.E.e.qual.length s.E.d, .int .i64 s.E.e.ts, .int .i64 s.E.e.seq, .int .i64 s.E.e.kind, .slice s.E.D s.E.e.val.length s.E.q, .slice s.G.A s.G.e.row.length s.G.c, .int .i64 s.G.e.fam, .slice s.G.B s.G.e.qual.length s.G.d, .int .i64 s.G.e.ts, .int .i64 s.G.e.seq, .int .i64 s.G.e.kind, .slice s.G.D s.G.e.val.length s.G.q, .int .i64 s.N] ∧ s.E.En w ∧ s.G.En w := by
  match cs, hl with
  | [c0, c1, a0, a1, a2, a3, a4, a5, a6, b0, b1, b2, b3, b4, b5, b6, c4], _ =>
    have hE : Try.prog.cellsOf 30 = 7 := by kernel_rfl
    have hI : Try.prog.cellsOf 3 = 1 := by kernel_rfl
    have hO : Try.prog.cellsOf 4 = 1 := by kernel_rfl
    obtain ⟨xs, k, rfl, _, _, hlen, hi⟩ := DataW.trod_struct Try.underlying72 hf
    match xs, hlen with
    | [x0, x1, x2, x3, x4], _ =>
      have t0 : DataW.trod enc Try.prog w base (fun _ => true) held k 3 (([c0, c1, a0, a1, a2, a3, a4, a5, a6, b0, b1, b2, b3, b4, b5, b6, c4].drop 0).take (Try.prog.cellsOf 3)) = some x0 := hi 0 _ rfl
      have t1 : DataW.trod enc Try.prog w base (fun _ => true) held k 4 (([c0, c1, a0, a1, a2, a3, a4, a5, a6, b0, b1, b2, b3, b4, b5, b6, c4].drop 1).take (Try.prog.cellsOf 4)) = some x1 := hi 1 _ rfl
      have t2 : DataW.trod enc Try.prog w base (fun _ => true) held k 30 (([c0, c1, a0, a1, a2, a3, a4, a5, a6, b0, b1, b2, b3, b4, b5, b6, c4].drop 2).take (Try.prog.cellsOf 30)) = some x2 := hi 2 _ rfl
      have t3 : DataW.trod enc Try.prog w base (fun _ => true) held k 30 (([c0, c1, a0, a1, a2, a3, a4, a5, a6, b0, b1, b2, b3, b4, b5, b6, c4].drop 9).take (Try.prog.cellsOf 30)) = some x3 := hi 3 _ rfl
      have t4 : DataW.trod enc Try.prog w base (fun _ => true) held k 3 (([c0, c1, a0, a1, a2, a3, a4, a5, a6, b0, b1, b2, b3, b4, b5, b6, c4].drop 16).take (Try.prog.cellsOf 3)) = some x4 := hi 4 _ rfl
      rw [hI] at t0 t4
      rw [hO] at t1
      rw [hE] at t2 t3
      obtain ⟨i0, e0, _, _⟩ := DataW.trod_int Try.underlying3 t0
      obtain ⟨i4, e4, _, _⟩ := DataW.trod_int Try.underlying3 t4
      obtain ⟨o1, e1, _⟩ := DataW.trod_bool Try.underlying4 t1
      obtain ⟨r, f0, f1, f2, f3, f4, f5, f6, hr⟩ := open_cells7 t2
      obtain ⟨q, g0, g1, g2, g3, g4, g5, g6, hq⟩ := open_cells7 t3
      injection e0 with e0 _; injection e1 with e1 _; injection e4 with e4 _
      have e0 : c0 = _ := e0
      have e1 : c1 = _ := e1
      have e4 : c4 = _ := e4
      subst e0 e1 e4 f0 f1 f2 f3 f4 f5 f6 g0 g1 g2 g3 g4 g5 g6
      exact ⟨⟨i0, o1, r, q, i4⟩, rfl, hr, hq⟩
set_option maxRecDepth 100000 in
theorem open_steps_top {r : Reach} {b0 : Nat} {v : Value} {d : DataW H} {ps : List MemPlace} (hval : Value.okWide Try.prog w r b0 64 v) (h : DataW.Trod enc Try.prog w base (fun _ => true) held 64 v d ps) :
    ∃ (A : Option Addr) (n c : Nat), v = .slice A n c ∧ (n ≤ c ∧ c ≤ 9223372036854775807) ∧ Stps w A n := by
  obtain ⟨fuel, hf⟩ := open_slice_top Try.underlying64 hval h
  have hC : Try.prog.cellsOf 72 = 17 := by kernel_rfl
  rcases open_slice Try.underlying64 hf with ⟨h1, _⟩ | ⟨a, len, cap, m, n, D, Pl, h1, _, hl, hm, hmm, _, hi⟩
  · injection h1 with h1
    exact ⟨none, 0, 0, h1, ⟨Nat.le_refl 0, Nat.zero_le _⟩, fun h => absurd h (by omega)⟩
  · injection h1 with h1
    have hmm : m = cap := hmm
    subst hmm
    refine ⟨some a, len, m, h1, ⟨hl, by unfold maxLen at hm; exact hm⟩, fun hn => ?_⟩
    have key : ∀ i, i < len → ∃ cs' : List Value, cs'.length = 17 ∧ (∀ j, j < 17 → w.cell? (a.add (i * 17 + j)) = cs'[j]?) ∧ ∃ y, DataW.trod enc Try.prog w base (fun _ => true) held n 72 cs' = some y := fun i him => by
      obtain ⟨cs', hc, ht'⟩ := hi i (by omega)
      rw [hC] at hc
      obtain ⟨_, hcl, hat⟩ := World.cells?_some hc
      exact ⟨cs', hcl, fun j hj => by rw [← Go.Deep.add_add]; exact hat j hj, _, ht'⟩
    obtain ⟨cs0, hl0, hc0, _⟩ := key 0 hn
    have c0' : w.cell? (a.add 0) = some (cs0[0]'(by omega)) := (hc0 0 (by omega)).trans (List.getElem?_eq_getElem (by omega))
    rw [show a.add 0 = a from by simp [Addr.add]] at c0'
    have hsp := spot_none6 c0'
    have hb0 := World.block_lt_of_cell? w a c0'
    obtain ⟨b, o, sp⟩ := a
    simp at hsp
    subst hsp
    refine ⟨b, o, rfl, hb0, fun i him => ?_⟩
    obtain ⟨cs', hcl, hat, y, ht'⟩ := key i him
    obtain ⟨s, rfl, hE, hG⟩ := open_cells17 hcl ht'
    refine ⟨s, fun j u hj => ?_, hE, hG⟩
    have hj17 : j < 17 := (List.getElem?_eq_some_iff.1 hj).1
    have := (hat j hj17).trans hj
    rw [Addr.add_mid] at this
    exact (congrArg (fun x => w.cell? ⟨b, x, none⟩) (by show o + i * 17 + j = o + (i * 17 + j); omega)).trans this
end
end Go.Proofs.Ytdaoinhkagmbdaa
namespace Go.Proofs.Ytdaoinhkagmbdaa
open Go.RowKit Go.WideShapes Go.ChangeShapes Go.Joins Go.Deep
def Trn (w : World) (A : Option Addr) (n : Nat) : Prop := 0 < n → ∃ b o, A = some ⟨b, o, none⟩ ∧ b < w.heap.size ∧ ∀ i, i < n → ∃ k t y : Int, w.rangeAt b (o + i * 3) [.int .i64 k, .int .i64 t, .int .i64 y]
theorem Trn.later {w x : World} {A : Option Addr} {n : Nat} (h : Trn w A n) (hb : Below w.heap.size w x) : Trn x A n := fun hn => by
  obtain ⟨b, o, h1, h2, h3⟩ := h hn
  refine ⟨b, o, h1, Nat.lt_of_lt_of_le h2 hb.size, fun i hi => ?_⟩
  obtain ⟨k, t, y, h4⟩ := h3 i hi
  exact ⟨k, t, y, fun j v hv => cell_below hb (h4 j v hv)⟩
section
variable {H : Type} {enc : TypeId × Value → H} {w : World} {base : Nat} {held : Bool}
end
end Go.Proofs.Ytdaoinhkagmbdaa
namespace Go.Proofs.Ytdaoinhkagmbdaa
open Go.RowKit
structure Erl (os : List Ob) (tg b24 b83 b5 g8 : Nat) (s sf : ER) : Prop where
  p : boxO b24 [.pointer (some ⟨tg, 0, none⟩)] ∈ os
  a : boxO b83 [.func (.func 55) #[] #[.pointer (some ⟨b5, 0, none⟩)]] ∈ os
  f : AoF b5 s os
  b : boxO g8 [.slice sf.A sf.e.row.length sf.c, .int .i64 sf.e.fam, .slice sf.B sf.e.qual.length sf.d, .int .i64 sf.e.ts, .int .i64 sf.e.seq, .int .i64 sf.e.kind, .slice sf.D sf.e.val.length sf.q] ∈ os
  e : EIn os sf
theorem Erl.more {os os' : List Ob} {tg b24 b83 b5 g8 : Nat} {s sf : ER} (h : Erl os tg b24 b83 b5 g8 s sf) (hs : ∀ o, o ∈ os → o ∈ os') : Erl os' tg b24 b83 b5 g8 s sf :=
  ⟨hs _ h.p, hs _ h.a, ⟨hs _ h.f.1, h.f.2.more hs⟩, hs _ h.b, h.e.more hs⟩
theorem tbytes_is5 {w x : World} {tg : Nat} {fr : Bool} {os : List Ob} {t : Tr} (h : OW w os x) (hm : boxO tg (tabC t fr) ∈ os) {n : Nat} (hn : sumP t.ents = n) : Calls Try.prog 25 #[.pointer (some ⟨tg, 0, none⟩)] x fun e z => e = .returned (.int .i64 (n : Nat)) ∧ z = x := by
  subst hn; exact tbytes_any h hm
theorem leaves_marks {P : Program} {fn : Func} {tmps : Array Value} {R : Ending → World → Prop} {w : World} : ∀ {Ds : List Nat} {os : List Ob} {z : World}, OW w (os ++ Ds.map dfrO) z → (∀ z', OW w os z' → LeavesInM Fence.wide 0 P fn tmps R [] .returning z') → LeavesInM Fence.wide 0 P fn tmps R (Ds.map markD) .returning z
  | [], os, z, h, k => k z (by rw [List.map_nil, List.append_nil] at h; exact h)
  | D :: Ds, os, z, h, k => leaves_mark (D := D) (es := Ds.map dfrO) h fun z' h' => leaves_marks h' k
end Go.Proofs.Ytdaoinhkagmbdaa
