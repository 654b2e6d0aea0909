/-
  Strings made of bytes, bytes made of strings, over any program; places in memory still there.
-/
import Derived.Test.YtbcljgcilbfblaaDoorBytes
import Derived.Laws.IdiomStrings
namespace Go.Proofs.YtbcljgcilbfblaaDoor
open Go.RowKit

section
variable {P : Program} {w : World}
theorem run_string_RB {B n : Nat} {A : Option Addr} {l : List UInt8} (c : Nat) (h : RB w B A n l) {src dst e : TypeId} (hs : P.underlying src = some (.slice e)) (he : P.underlying e = some (.int .u8)) (hd : P.underlying dst = some .string) :
    (convert src dst (.slice A n c)).run P w = .ok (.string ⟨l.toArray⟩) w := by
  have hl := h.len
  cases A with
  | none =>
    have hn : n = 0 := by
      rcases Nat.eq_zero_or_pos n with h0 | h0
      · exact h0
      · obtain ⟨_, _, e, _⟩ := h.2 h0
        cases e
    have hl0 : l = [] := List.eq_nil_of_length_eq_zero (by omega)
    subst hl0
    rw [run_convert_bytes_string w src dst e none n c hs he hd]
    rfl
  | some ad =>
    subst hl
    refine run_convert_bytes_back w src dst e ad c l hs he hd fun j hj => ?_
    obtain ⟨b, o, e, _, hc⟩ := h.2 (by omega)
    injection e with e
    subst e
    have := hc j _ (u8s_at (List.getElem?_eq_getElem hj))
    unfold Addr.add
    split
    · rename_i h0; subst h0; exact this
    · exact this

theorem bytes_reads (s : ByteArray) (cap : Nat) (t : TypeId) (fr : Nat × Nat) : RB (w.alloc (.cells (bytesRow s cap) t fr)) (w.heap.size + 1) (some ⟨w.heap.size, 0, none⟩) s.size s.data.toList := by
  refine RB.mk' (by rw [Array.length_toList]; rfl) fun _ => ⟨w.heap.size, 0, rfl, by omega, fun j c hj => ?_⟩
  rw [Nat.zero_add, World.cell?_alloc_mark]
  have hlt : j < s.data.size := by
    have := (List.getElem?_eq_some_iff.1 hj).1
    simpa using this
  rw [bytesRow_at s cap j hlt]
  rw [Array.getElem?_toList, Array.getElem?_eq_getElem hlt] at hj
  injection hj with hj
  rw [hj]

variable {ops : Array Oper} {rest : List Oper} {o : Oper} {a : Act} {Q : Exit → Act → World → Prop}

/-- 'string(b)'. -/
theorem wpList_string_reads (hg : o.guard = none) (x : Operand) (src dst e : TypeId) (hop : o.op = Op.convert src dst x) (hs : P.underlying src = some (.slice e)) (he : P.underlying e = some (.int .u8)) (hd : P.underlying dst = some .string)
    {B n c : Nat} {A : Option Addr} {l : List UInt8} (hx : a.eval x = .slice A n c) (h : RB w B A n l)
    (hK : wpList P ops Q rest (a.put o.dst (.string ⟨l.toArray⟩)) w) : wpList P ops Q (o :: rest) a w := by
  refine wpList_plain hg fun K' hK' => ?_
  have hrun := run_string_RB (P := P) (w := w) c h hs he hd
  unfold Oper.wp
  simp [execOp, hop, hx, hrun, Result.andThen]
  exact hK' _ _ hK

/-- '[]byte(s)'. -/
theorem wpList_bytes_of (hg : o.guard = none) (x : Operand) (src dst e : TypeId) (hop : o.op = Op.convert src dst x) (hs : P.underlying src = some .string) (hd : P.underlying dst = some (.slice e)) (he : P.underlying e = some (.int .u8))
    (s : ByteArray) (hx : a.eval x = .string s)
    (hK : ∀ cap w', RB w' w'.heap.size (some ⟨w.heap.size, 0, none⟩) s.size s.data.toList → w.grownBy w' none → w'.heap.size = w.heap.size + 1 → wpList P ops Q rest (a.put o.dst (.slice (some ⟨w.heap.size, 0, none⟩) s.size cap)) w') :
    wpList P ops Q (o :: rest) a w := by
  refine wpList_plain hg fun K' hK' => ?_
  have hrun := run_bytes_of_string (P := P) w src dst e s hs hd he
  unfold Oper.wp
  simp [execOp, hop, hx, hrun, Result.andThen]
  refine hK' _ _ (hK _ _ ?_ (by have h := World.grownBy_alloc w.drew (.cells (bytesRow s (grownCap w s.size 0 e)) e ((bytesRow s (grownCap w s.size 0 e)).size, (bytesRow s (grownCap w s.size 0 e)).size + 1)) none; exact ⟨h.os, h.tape, h.output, h.size, h.block⟩) (by simp))
  have := bytes_reads (w := w.drew) s (grownCap w s.size 0 e) e ((bytesRow s (grownCap w s.size 0 e)).size, (bytesRow s (grownCap w s.size 0 e)).size + 1)
  simpa using this
end

end Go.Proofs.YtbcljgcilbfblaaDoor
