/-
  The frame of the wire statements' proofs: the table as the row lists it, a world for the witness.
-/
import Derived.Test.YtbcljgcilbfblaaDoorLaw3
import Derived.Test.YtbcljgcilbfblaaDoorWireW7
import Derived.Test.YtbcljgcilbfblaaDoorCards
import Derived.Test.YtbcljgcilbfblaaDoorTie
import Derived.OpenShut
import Derived.Deep.DeepHandedRow
import Derived.Lib.LaidTab
namespace Go.Proofs.YtbcljgcilbfblaaDoor
open Go.ChangeShapes Go.WideShapes Go.ChangeAt Go.RowKit Go.Joins Go.Deep

theorem Tryd.own : ownKnob Tryd.prog.godebug = none := by kernel_rfl
theorem Tryd.laidOut : laidOutB Tryd.prog = true := by kernel_rfl
theorem gTab : Tryd.prog.globalNamed "strata/wire.table" = some 0 := by kernel_rfl
theorem gTabType : (Tryd.prog.globals[0]?).map (·.type) = some 69 := by kernel_rfl
theorem gTabCells : Tryd.prog.cellsOf 69 = 16 := by kernel_rfl
theorem gTabCell : Tryd.prog.cellsOf 51 = 1 := by kernel_rfl
def tabZ : List Int := [0, 274646895, 549293790, 820201905, 1098587580, 1361435347, 1640403810, 1905808397, 2197175160, 2460548119, 2722870694, 2987750089, 3280807620, 3553878443, 3811616794, 4084100981]
theorem tabZ_at : ∀ i : Fin 16, tabZ.getD i.val 0 = (tabN i.val : Int) := by decide +kernel
/-- What the row's list gives. -/
theorem table_of {W : World} (h : laidMetH Tryd.prog [("strata/wire.table", Rows.laid_strata_wire_table)] W) : TabAt 0 W := by
  have ht : Lib.TabIs Tryd.prog W "strata/wire.table" .u32 tabZ := Lib.tabIs_of_head (rest := []) gTab gTabType Tryd.underlying69 Tryd.underlying51 gTabCell gTabCells h
  have hc : ∀ i, i < 16 → W.cell? ⟨0, i, none⟩ = some (.int .u32 (tabN i)) := fun i hi => by
    rw [ht.cell gTab i hi, tabZ_at ⟨i, hi⟩]
  exact ⟨World.block_lt_of_cell? W ⟨0, 0, none⟩ (hc 0 (by decide)), hc⟩
/-- A world for the witness: the settled one, the table holding what its initialiser lays. -/
noncomputable def laidWorld (os : Os) : World :=
  { World.holding Tryd.prog os ⟨#[], #[], []⟩ with heap := (World.holding Tryd.prog os ⟨#[], #[], []⟩).heap.modify 0 fun
      | .cells _ t frozen => .cells #[.int .u32 0, .int .u32 274646895, .int .u32 549293790, .int .u32 820201905, .int .u32 1098587580, .int .u32 1361435347, .int .u32 1640403810, .int .u32 1905808397, .int .u32 2197175160, .int .u32 2460548119, .int .u32 2722870694, .int .u32 2987750089, .int .u32 3280807620, .int .u32 3553878443, .int .u32 3811616794, .int .u32 4084100981] t frozen
      | o => o }

theorem i64_wf {n : Int} (h : (Lit.int .i64 n).wf = true) : -9223372036854775808 ≤ n ∧ n < 9223372036854775808 := by
  simp [Lit.wf, IntKind.min, IntKind.max, IntKind.signed, IntKind.bits] at h
  omega
theorem u64_wf {n : Int} (h : (Lit.int .u64 n).wf = true) : 0 ≤ n ∧ n < 18446744073709551616 := by
  simp [Lit.wf, IntKind.min, IntKind.max, IntKind.signed, IntKind.bits] at h
  omega
theorem u32_wf {n : Int} (h : (Lit.int .u32 n).wf = true) : 0 ≤ n ∧ n < 4294967296 := by
  simp [Lit.wf, IntKind.min, IntKind.max, IntKind.signed, IntKind.bits] at h
  omega

end Go.Proofs.YtbcljgcilbfblaaDoor
