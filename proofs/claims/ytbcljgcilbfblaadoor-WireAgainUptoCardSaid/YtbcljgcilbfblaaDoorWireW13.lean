/-
  The statements' written, walked.
-/
import Derived.Test.YtbcljgcilbfblaaDoorWireW12
import Derived.Test.YtbcljgcilbfblaaDoorWireW3
import Derived.Test.YtbcljgcilbfblaaDoorWireP8
import Derived.Deep.CutRange
import Derived.Deep.DeepCutAuto
namespace Go.Proofs.YtbcljgcilbfblaaDoor
open Go.RowKit

theorem rTo_len8 (v : Nat) : (risB v).length = 8 := rTo_len v 8
theorem own_lit (w : World) (C : Array Value) (e : TypeId) (base n size : Nat) (hb : base ≤ w.heap.size) (hm : n ≤ maxLen) (hs : C.size = n * size) : (w.alloc (.cells C e)).ownsRow base e size (.slice (some ⟨w.heap.size, 0, none⟩) n n) n C.toList :=
  ⟨by rw [Array.length_toList]; exact hs, .inr ⟨w.heap.size, n, C, rfl, hb, heap_alloc_new w _, Nat.le_refl _, hm, hs, by rw [← hs, ← Array.length_toList, List.take_length]⟩⟩
theorem OwnB.kept13 {T : TypeId} {base g : Nat} {w w' : World} {A : Option Addr} {c : Nat} {l : List UInt8} (h : OwnB T base w A c l) (hg : w.grownBy w' (some g)) (hlt : g < base) : OwnB T base w' A c l := by
  refine World.ownsRow.kept h hg ?_
  cases A with
  | none => exact .inl rfl
  | some a =>
    refine .inr fun e => ?_
    have := (World.ownsRow.lt h a.block rfl).1
    injection e with e
    omega
/-- A slice that reads, behind an append to a younger row. -/
theorem Sl.over {w x y : World} {A : Option Addr} {n c g : Nat} {l : List UInt8} (h : Sl w A n c l) (hb : Below w.heap.size w x) (hg : x.grownBy y (some g)) (hle : w.heap.size ≤ g) : Sl y A n c l :=
  ⟨Reads.more (Reads.grown (h.rb.below hb) hg hb.size (fun _ e => by injection e with e; omega)) (Nat.le_trans hb.size hg.size), h.cap, h.lim, h.nil⟩
/-- What is written of a number and of bytes; by which Read it is read. -/
def wB (v : Nat) (l : List UInt8) : Nat → List UInt8
  | 0 => uintB v
  | 1 => risB (v / 2)
  | 2 => risB (9223372036854775807 - v / 2)
  | 3 => uintB l.length ++ l
  | 4 => ordB l
  | _ => frameB l
def wK : Nat → Int
  | 0 => 2
  | 1 => 6
  | 2 => 8
  | 3 => 4
  | 4 => 10
  | _ => 13
end Go.Proofs.YtbcljgcilbfblaaDoor
