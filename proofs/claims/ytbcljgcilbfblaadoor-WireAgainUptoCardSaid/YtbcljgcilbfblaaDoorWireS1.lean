/-
  WireSums, walked.
-/
import Derived.Test.YtbcljgcilbfblaaDoorWireW7
namespace Go.Proofs.YtbcljgcilbfblaaDoor
open Go.RowKit

theorem sums_known : sumL [[49, 50, 51], [], [52, 53, 54, 55, 56, 57]].flatten = 3808858755 := by decide +kernel
theorem sums_none : sumL ([] : List (List UInt8)).flatten = 0 := by decide +kernel

theorem kv_lit_at (w : World) (C : Array Value) (ks : List (List UInt8)) (n g : Nat) (t : TypeId) (fr : Nat × Nat) (h : KV w w.heap.size C.toList ks) (hn : ks.length = n) (hg : w.heap.size = g) :
    RBs (w.alloc (.cells C t fr)) (w.alloc (.cells C t fr)).heap.size (some ⟨g, 0, none⟩) n ks := hg ▸ kv_lit w C ks n t fr h hn
theorem flat_take (ks : List (List UInt8)) (k : Nat) : (ks.take k).flatten.length ≤ ks.flatten.length := by
  have e := congrArg List.length (congrArg List.flatten (List.take_append_drop k ks))
  rw [List.flatten_append, List.length_append] at e
  omega

theorem known_lit (w : World) : RBs (((w.alloc (.cells #[.int .u8 49, .int .u8 50, .int .u8 51] 5)).alloc (.cells #[.int .u8 52, .int .u8 53, .int .u8 54, .int .u8 55, .int .u8 56, .int .u8 57] 5)).alloc (.cells #[.slice (some ⟨w.heap.size, 0, none⟩) 3 3, .slice none 0 0, .slice (some ⟨w.heap.size + 1, 0, none⟩) 6 6] 25)) (((w.alloc (.cells #[.int .u8 49, .int .u8 50, .int .u8 51] 5)).alloc (.cells #[.int .u8 52, .int .u8 53, .int .u8 54, .int .u8 55, .int .u8 56, .int .u8 57] 5)).alloc (.cells #[.slice (some ⟨w.heap.size, 0, none⟩) 3 3, .slice none 0 0, .slice (some ⟨w.heap.size + 1, 0, none⟩) 6 6] 25)).heap.size (some ⟨w.heap.size + 1 + 1, 0, none⟩) 3 [[49, 50, 51], [], [52, 53, 54, 55, 56, 57]] ∧ Below w.heap.size w (((w.alloc (.cells #[.int .u8 49, .int .u8 50, .int .u8 51] 5)).alloc (.cells #[.int .u8 52, .int .u8 53, .int .u8 54, .int .u8 55, .int .u8 56, .int .u8 57] 5)).alloc (.cells #[.slice (some ⟨w.heap.size, 0, none⟩) 3 3, .slice none 0 0, .slice (some ⟨w.heap.size + 1, 0, none⟩) 6 6] 25)) := by
  have h1 : Sl ((w.alloc (.cells #[.int .u8 49, .int .u8 50, .int .u8 51] 5)).alloc (.cells #[.int .u8 52, .int .u8 53, .int .u8 54, .int .u8 55, .int .u8 56, .int .u8 57] 5)) (some ⟨w.heap.size, 0, none⟩) 3 3 [49, 50, 51] := (Sl.lit (n := 3) w #[.int .u8 49, .int .u8 50, .int .u8 51] [49, 50, 51] 5 (0, 0) rfl rfl (by omega)).later ((Below.refl _ _).alloc (Nat.le_refl _) _)
  have h2 : Sl ((w.alloc (.cells #[.int .u8 49, .int .u8 50, .int .u8 51] 5)).alloc (.cells #[.int .u8 52, .int .u8 53, .int .u8 54, .int .u8 55, .int .u8 56, .int .u8 57] 5)) (some ⟨w.heap.size + 1, 0, none⟩) 6 6 [52, 53, 54, 55, 56, 57] := by
    have := Sl.lit (n := 6) (w.alloc (.cells #[.int .u8 49, .int .u8 50, .int .u8 51] 5)) #[.int .u8 52, .int .u8 53, .int .u8 54, .int .u8 55, .int .u8 56, .int .u8 57] [52, 53, 54, 55, 56, 57] 5 (0, 0) rfl rfl (by omega)
    rwa [World.size_alloc] at this
  have h3 := kv_lit ((w.alloc (.cells #[.int .u8 49, .int .u8 50, .int .u8 51] 5)).alloc (.cells #[.int .u8 52, .int .u8 53, .int .u8 54, .int .u8 55, .int .u8 56, .int .u8 57] 5)) #[.slice (some ⟨w.heap.size, 0, none⟩) 3 3, .slice none 0 0, .slice (some ⟨w.heap.size + 1, 0, none⟩) 6 6] _ 3 25 (0, 0) (h1.cons ((Sl.none _).cons (h2.cons KV.nil))) rfl
  refine ⟨?_, (((Below.refl _ _).alloc (Nat.le_refl _) _).alloc (by simp) _).alloc (by simp; omega) _⟩
  simpa using h3

end Go.Proofs.YtbcljgcilbfblaaDoor
