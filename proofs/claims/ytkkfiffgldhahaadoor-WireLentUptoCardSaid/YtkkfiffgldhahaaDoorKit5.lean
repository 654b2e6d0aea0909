/-
  Slices apart from a row that grows; families of slices with marks behind them. Over any program.
-/
import Derived.Test.YtkkfiffgldhahaaDoorKit4
namespace Go.Proofs.YtkkfiffgldhahaaDoor
open Go.RowKit

section
variable {w x y : World} {A : Option Addr} {n c : Nat} {l : List UInt8} {row row' : Option Nat}
theorem Reads.apart {B size : Nat} {xs : List Value} (h : Reads w w.heap.size size A n xs) (hg : w.grownBy y row) (hne : 0 < n → ∀ a, A = some a → some a.block ≠ row) : Reads y y.heap.size size A n xs :=
  ⟨h.1, fun hn => by
    obtain ⟨b, o, rfl, hb, hc⟩ := h.2 hn
    refine ⟨b, o, rfl, Nat.lt_of_lt_of_le hb hg.size, fun j u hu => ?_⟩
    have e : y.cell? ⟨b, o + j, none⟩ = w.cell? ⟨b, o + j, none⟩ := World.cell?_of_block (hg.block b hb (fun e => hne hn _ rfl (e ▸ rfl)))
    exact e.trans (hc j u hu)⟩
theorem Sl.apart (h : Sl w A n c l) (hg : w.grownBy y row) (hne : 0 < n → ∀ a, A = some a → some a.block ≠ row) : Sl y A n c l :=
  ⟨Reads.apart (B := 0) h.rb hg hne, h.cap, h.lim, h.nil⟩
theorem Sl.block_lt (h : Sl w A n c l) (hn : 0 < n) : ∀ a, A = some a → a.block < w.heap.size := by
  intro a ha
  obtain ⟨b, o, e, hb, _⟩ := h.rb.2 hn
  rw [ha] at e; injection e with e; subst e; exact hb
end

/-- Slices that read as the lists, each with the same marks behind it; none lies in the row. -/
def Fam (w : World) (row : Option Nat) (vs : List Value) (ks : List (List UInt8)) (more : List UInt8) : Prop :=
  vs.length = ks.length ∧ ∀ (i : Nat) (k : List UInt8), ks[i]? = some k → ∃ (a : Option Addr) (c : Nat), vs[i]? = some (.slice a k.length c) ∧ Sl w a (k.length + more.length) c (k ++ more) ∧ ∀ x, a = some x → some x.block ≠ row
section
variable {w x y : World} {row row' : Option Nat} {vs : List Value} {ks : List (List UInt8)} {more : List UInt8}
theorem Fam.nil : Fam w row [] [] more := ⟨rfl, fun i k h => by simp at h⟩
theorem Fam.later (h : Fam w row vs ks more) (hb : Below w.heap.size w x) : Fam x row vs ks more :=
  ⟨h.1, fun i k hk => by obtain ⟨a, c, q1, q2, q3⟩ := h.2 i k hk; exact ⟨a, c, q1, q2.later hb, q3⟩⟩
theorem Fam.step (h : Fam w row vs ks more) (hm : 0 < more.length) (hg : w.grownBy x row) (hr : row' = row ∨ row' = some w.heap.size) : Fam x row' vs ks more :=
  ⟨h.1, fun i k hk => by
    obtain ⟨a, c, q1, q2, q3⟩ := h.2 i k hk
    refine ⟨a, c, q1, q2.apart hg (fun _ => q3), fun z hz => ?_⟩
    rcases hr with rfl | rfl
    · exact q3 z hz
    · have := q2.block_lt (by omega) z hz
      intro e; injection e with e; omega⟩
theorem Fam.snoc (h : Fam w row vs ks more) {a : Option Addr} {c : Nat} {k : List UInt8} (hs : Sl w a (k.length + more.length) c (k ++ more)) (hne : ∀ x, a = some x → some x.block ≠ row) : Fam w row (vs ++ [.slice a k.length c]) (ks ++ [k]) more := by
  refine ⟨by simp [h.1], fun i q hq => ?_⟩
  rw [List.getElem?_append] at hq ⊢
  rw [h.1]
  split at hq
  · rename_i hi
    rw [if_pos hi]; exact h.2 i q hq
  · rename_i hi
    rw [if_neg hi]
    have h0 : i - ks.length = 0 := by
      have := (List.getElem?_eq_some_iff.1 hq).1
      simp at this; omega
    rw [h0] at hq ⊢
    injection hq with hq; subst hq
    exact ⟨a, c, rfl, hs, hne⟩
theorem Fam.kv (h : Fam w row vs ks more) : KV w w.heap.size vs ks :=
  ⟨h.1, fun i k hk => by
    obtain ⟨a, c, q1, q2, _⟩ := h.2 i k hk
    have := q2.take (m := k.length) (by omega)
    rw [List.take_left' rfl] at this
    exact ⟨a, c, q1, this.cap, this.lim, this.nil, this.rb⟩⟩
theorem Fam.at_ (h : Fam w row vs ks more) {i : Nat} {k : List UInt8} (hk : ks[i]? = some k) : ∃ a c, vs[i]? = some (.slice a k.length c) ∧ Sl w a (k.length + more.length) c (k ++ more) := by
  obtain ⟨a, c, q1, q2, _⟩ := h.2 i k hk
  exact ⟨a, c, q1, q2⟩
end
/-- Where a slice of one's own lies: apart from what grew before. -/
theorem OwnB.far {T : TypeId} {base : Nat} {w : World} {A : Option Addr} {c : Nat} {l : List UInt8} (h : OwnB T base w A c l) {row : Option Nat} (hr : ∀ g, row = some g → g < base) : ∀ a, A = some a → some a.block ≠ row := by
  intro a ha e
  have h1 := hr a.block e.symm
  have h2 := (World.ownsRow.lt h a.block (by rw [ha]; rfl)).1
  omega
theorem own_row_lt {w : World} {base e size n : Nat} {v : Value} {xs : List Value} (h : w.ownsRow base e size v n xs) : ∀ g, v.ownBlock = some g → g < w.heap.size := fun g hg => (World.ownsRow.lt h g hg).2

end Go.Proofs.YtkkfiffgldhahaaDoor
