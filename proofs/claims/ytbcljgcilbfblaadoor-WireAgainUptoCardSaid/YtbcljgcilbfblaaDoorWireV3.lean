/-
  The statements' upTo, WireNumbers, WireOrdered, WireFrames, WirePlays, walked.
-/
import Derived.Test.YtbcljgcilbfblaaDoorWireV2
import Derived.Test.YtbcljgcilbfblaaDoorWireS1
import Derived.Test.YtbcljgcilbfblaaDoorLaw4
namespace Go.Proofs.YtbcljgcilbfblaaDoor
open Go.RowKit

/-- A call's fields lie at a place. -/
def OpAt (w : World) (b q : Nat) (K : Int) : Prop :=
  ∃ (a N V : Int) (l : List UInt8) (ps : List (List UInt8)) (A PA : Option Addr) (n c pn pc : Nat), w.cell? ⟨b, q, none⟩ = some (.int .i64 K) ∧ w.cell? ⟨b, q + 1, none⟩ = some (.slice A n c) ∧ w.cell? ⟨b, q + 2, none⟩ = some (.int .i64 a) ∧ w.cell? ⟨b, q + 3, none⟩ = some (.int .i64 N) ∧ w.cell? ⟨b, q + 4, none⟩ = some (.int .u64 V) ∧ w.cell? ⟨b, q + 5, none⟩ = some (.slice PA pn pc) ∧
    Sl w A n c l ∧ RBs w w.heap.size PA pn ps ∧ pn ≤ pc ∧ n ≤ 1048576 ∧ pn ≤ 1048576 ∧ ps.flatten.length ≤ 1048576 ∧ (0 ≤ V ∧ V < 18446744073709551616) ∧ (-9223372036854775808 ≤ N ∧ N < 9223372036854775808)
/-- A script of calls. -/
def Scr (w : World) (A : Option Addr) (n : Nat) : Prop := 0 < n → ∃ b o, A = some ⟨b, o, none⟩ ∧ b < w.heap.size ∧ ∀ i, i < n → ∃ K, OpAt w b (o + i * 6) K
theorem OpAt.later {w w' : World} {b q : Nat} {K : Int} (h : OpAt w b q K) (hlt : b < w.heap.size) (hb : Below w.heap.size w w') : OpAt w' b q K := by
  obtain ⟨a, N, V, l, ps, A, PA, n, c, pn, pc, c0, c1, c2, c3, c4, c5, hs, hp, hr⟩ := h
  have hc : ∀ j, w'.cell? ⟨b, j, none⟩ = w.cell? ⟨b, j, none⟩ := fun j => hb.cell (p := ⟨b, j, none⟩) hlt
  exact ⟨a, N, V, l, ps, A, PA, n, c, pn, pc, (hc _).trans c0, (hc _).trans c1, (hc _).trans c2, (hc _).trans c3, (hc _).trans c4, (hc _).trans c5, hs.later hb, hp.later hb, hr⟩
theorem Scr.later {w w' : World} {A : Option Addr} {n : Nat} (h : Scr w A n) (hb : Below w.heap.size w w') : Scr w' A n := fun hn => by
  obtain ⟨b, o, e, hlt, hq⟩ := h hn
  exact ⟨b, o, e, Nat.lt_of_lt_of_le hlt hb.size, fun i hi => by obtain ⟨K, hk⟩ := hq i hi; exact ⟨K, hk.later hlt hb⟩⟩

section
variable (A : Option Addr) (n c : Nat) (w : World) (hs : Scr w A n) (hn : n ≤ 9223372036854775807) (ht : TabAt 0 w)
include hs hn ht

end
end Go.Proofs.YtbcljgcilbfblaaDoor
