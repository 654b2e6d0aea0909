/-
  No cell of these rows narrows 'for every input' (looked for: loops, veiled, ifaces, maps, wideKeys, modest, calm, conditions, laid).
  DERIVED. THE GIVEN ROWS OF THIS SEAT. 5 by the template 'for every input the law returns true; each argument reads behind the call as it read before'; 0 by the template 'total and deterministic' (their statements: YtdaoinhkagmbdaaTotals.lean).
  GIVEN WITH THE SEED: the statements are not yours to turn. If you find one false, say at which input.
  Laid BY PROGRAM, IN A SANDBOX (cutbox-rows.mjs): the forced cells as the released guide's own fill.sh prints them over the translation 8b16bf0edae30bbd… (all of the seat's roots in one cut). By AI agents, Wed Nov 11 2026. No macro, syntax, notation, axiom, sorry.
-/
import Derived.Test.YtdaoinhkagmbdaaChecked
import GoSem.Claim
import GoSem.ClaimJoined
import GoSem.ClaimMapViews
import Derived.JoinedTies
import Derived.KernelRfl
namespace Go.Proofs.Ytdaoinhkagmbdaa
/- THE CELL 'sum', in the pinned program and in every row, IS THE sha256 OF THE DUMP (.gsa) THAT YtdaoinhkagmbdaaProg.lean LOADS. Nothing in Lean hashes anything: it is a label: what it is worth is what the hold of that sum in a sandbox is worth. -/
noncomputable def Try.pinned : Pinned := { name := "ytdaoinhkagmbdaa", sum := "8b16bf0edae30bbd9ce685f02e4db687ffbb4e2b305a1033dc484ed1c46b0bdd", checked := Try.checked }
namespace Rows
def none {H : Type} : Left H := { results := [], args := [] }

/-- 'stratalaw8.MemFixed': WHATEVER THE INPUT: true; the input reads as it did. -/
def memFixedSpec : ChangeSpec := { name := "memFixed", fn := fun _ => fun
  | [d1, d2] => { results := [.lit (.bool true)], args := [d1, d2] }
  | _ => none }
def memFixedRow : OpenClaim := { program := "ytdaoinhkagmbdaa", sum := "8b16bf0edae30bbd9ce685f02e4db687ffbb4e2b305a1033dc484ed1c46b0bdd", func := "strata/stratalaw8.MemFixed", spec := "memFixed", inPlace := ["internal/bytealg.Compare"], unfollowed := true, recurses := true, apart := false }
def MemFixedSaid : Prop := memFixedRow.holds Try.pinned (OpenSpec.ofChange memFixedSpec)

/-- ITS FALSE NEIGHBOUR: 'it returns false'. Refute it at one input. -/
def memFixedWrong : ChangeSpec := { name := "memFixed", fn := fun _ => fun
  | [d1, d2] => { results := [.lit (.bool false)], args := [d1, d2] }
  | _ => none }
def MemFixedWrongFalsely : Prop := memFixedRow.holds Try.pinned (OpenSpec.ofChange memFixedWrong)

/-- 'stratalaw8.MemLent': WHATEVER THE INPUT: true; the input reads as it did. -/
def memLentSpec : ChangeSpec := { name := "memLent", fn := fun _ => fun
  | [d1, d2] => { results := [.lit (.bool true)], args := [d1, d2] }
  | _ => none }
def memLentRow : OpenClaim := { program := "ytdaoinhkagmbdaa", sum := "8b16bf0edae30bbd9ce685f02e4db687ffbb4e2b305a1033dc484ed1c46b0bdd", func := "strata/stratalaw8.MemLent", spec := "memLent", inPlace := ["internal/bytealg.Compare"], unfollowed := true, recurses := true, apart := false }
def MemLentSaid : Prop := memLentRow.holds Try.pinned (OpenSpec.ofChange memLentSpec)

/-- ITS FALSE NEIGHBOUR: 'it returns false'. Refute it at one input. -/
def memLentWrong : ChangeSpec := { name := "memLent", fn := fun _ => fun
  | [d1, d2] => { results := [.lit (.bool false)], args := [d1, d2] }
  | _ => none }
def MemLentWrongFalsely : Prop := memLentRow.holds Try.pinned (OpenSpec.ofChange memLentWrong)

/-- 'stratalaw8.MemAny': WHATEVER THE INPUT: true; the input reads as it did. -/
def memAnySpec : ChangeSpec := { name := "memAny", fn := fun _ => fun
  | [d1, d2] => { results := [.lit (.bool true)], args := [d1, d2] }
  | _ => none }
def memAnyRow : OpenClaim := { program := "ytdaoinhkagmbdaa", sum := "8b16bf0edae30bbd9ce685f02e4db687ffbb4e2b305a1033dc484ed1c46b0bdd", func := "strata/stratalaw8.MemAny", spec := "memAny", inPlace := ["internal/bytealg.Compare"], unfollowed := true, recurses := true, apart := false }
def MemAnySaid : Prop := memAnyRow.holds Try.pinned (OpenSpec.ofChange memAnySpec)

/-- ITS FALSE NEIGHBOUR: 'it returns false'. Refute it at one input. -/
def memAnyWrong : ChangeSpec := { name := "memAny", fn := fun _ => fun
  | [d1, d2] => { results := [.lit (.bool false)], args := [d1, d2] }
  | _ => none }
def MemAnyWrongFalsely : Prop := memAnyRow.holds Try.pinned (OpenSpec.ofChange memAnyWrong)

/-- 'stratalaw8.MemAgain': WHATEVER THE INPUT: true; the input reads as it did. -/
def memAgainSpec : ChangeSpec := { name := "memAgain", fn := fun _ => fun
  | [d1, d2] => { results := [.lit (.bool true)], args := [d1, d2] }
  | _ => none }
def memAgainRow : OpenClaim := { program := "ytdaoinhkagmbdaa", sum := "8b16bf0edae30bbd9ce685f02e4db687ffbb4e2b305a1033dc484ed1c46b0bdd", func := "strata/stratalaw8.MemAgain", spec := "memAgain", inPlace := ["internal/bytealg.Compare"], unfollowed := true, recurses := true, apart := false }
def MemAgainSaid : Prop := memAgainRow.holds Try.pinned (OpenSpec.ofChange memAgainSpec)

/-- ITS FALSE NEIGHBOUR: 'it returns false'. Refute it at one input. -/
def memAgainWrong : ChangeSpec := { name := "memAgain", fn := fun _ => fun
  | [d1, d2] => { results := [.lit (.bool false)], args := [d1, d2] }
  | _ => none }
def MemAgainWrongFalsely : Prop := memAgainRow.holds Try.pinned (OpenSpec.ofChange memAgainWrong)

/-- 'stratalaw8.MemPlays': WHATEVER THE INPUT: true; the input reads as it did. -/
def memPlaysSpec : ChangeSpec := { name := "memPlays", fn := fun _ => fun
  | [d] => { results := [.lit (.bool true)], args := [d] }
  | _ => none }
def memPlaysRow : OpenClaim := { program := "ytdaoinhkagmbdaa", sum := "8b16bf0edae30bbd9ce685f02e4db687ffbb4e2b305a1033dc484ed1c46b0bdd", func := "strata/stratalaw8.MemPlays", spec := "memPlays", inPlace := ["internal/bytealg.Compare"], unfollowed := true, recurses := true, apart := false }
def MemPlaysSaid : Prop := memPlaysRow.holds Try.pinned (OpenSpec.ofChange memPlaysSpec)

/-- ITS FALSE NEIGHBOUR: 'it returns false'. Refute it at one input. -/
def memPlaysWrong : ChangeSpec := { name := "memPlays", fn := fun _ => fun
  | [d] => { results := [.lit (.bool false)], args := [d] }
  | _ => none }
def MemPlaysWrongFalsely : Prop := memPlaysRow.holds Try.pinned (OpenSpec.ofChange memPlaysWrong)

/- THE SECOND FORM. 'bulk': how many values and letters a reading holds, each counted each time it is reached (what is shared counts as often as it is met; a slice's spare places count too). A statement '..UptoSaid' is the law's where the arguments, and the package variables that the reading takes, are together of bulk at most 1048576: NARROWER than '..Said'. Prove '..Said' where nothing that the law and all that it calls make is longer than what came in: it says more and counts as full. Else prove '..UptoSaid'. A law counts once. -/
mutual
def uptoBulk {H : Type} : DataW H → Nat
  | .lit (.string bytes) => bytes.length + 1
  | .lit _ => 1
  | .nil => 1
  | .ptr d => uptoBulk d + 1
  | .slice elems spare => uptoBulkAll elems + uptoBulkAll spare + 1
  | .agg parts => uptoBulkAll parts + 1
  | .iface _ d => uptoBulk d + 1
  | .map entries => uptoBulkEntries entries + 1
  | .held _ => 1
def uptoBulkAll {H : Type} : List (DataW H) → Nat
  | [] => 0
  | d :: r => uptoBulk d + uptoBulkAll r
def uptoBulkEntries {H : Type} : List (Lit × DataW H) → Nat
  | [] => 0
  | x :: r => uptoBulkEntry x + uptoBulkEntries r
def uptoBulkEntry {H : Type} : Lit × DataW H → Nat
  | (.string bytes, d) => bytes.length + uptoBulk d + 1
  | (_, d) => uptoBulk d + 1
 end
def uptoSmall : (H : Type) → List (DataW H) → Bool := fun _ ds => decide (uptoBulkAll ds ≤ 1048576)
def OpenSpec.upto (s : _root_.Go.ChangeSpec) : _root_.Go.OpenSpec := { _root_.Go.OpenSpec.ofChange s with cond := some uptoSmall }

/-- 'stratalaw8.MemFixed', WHERE WHAT IT READS IS OF BULK AT MOST 1048576: true; the input reads as it did. -/
def memFixedUptoRow : OpenClaim := { program := "ytdaoinhkagmbdaa", sum := "8b16bf0edae30bbd9ce685f02e4db687ffbb4e2b305a1033dc484ed1c46b0bdd", func := "strata/stratalaw8.MemFixed", spec := "memFixed", inPlace := ["internal/bytealg.Compare"], unfollowed := true, recurses := true, apart := false, narrowed := true }
def MemFixedUptoSaid : Prop := memFixedUptoRow.holds Try.pinned (OpenSpec.upto memFixedSpec)

/-- 'stratalaw8.MemLent', WHERE WHAT IT READS IS OF BULK AT MOST 1048576: true; the input reads as it did. -/
def memLentUptoRow : OpenClaim := { program := "ytdaoinhkagmbdaa", sum := "8b16bf0edae30bbd9ce685f02e4db687ffbb4e2b305a1033dc484ed1c46b0bdd", func := "strata/stratalaw8.MemLent", spec := "memLent", inPlace := ["internal/bytealg.Compare"], unfollowed := true, recurses := true, apart := false, narrowed := true }
def MemLentUptoSaid : Prop := memLentUptoRow.holds Try.pinned (OpenSpec.upto memLentSpec)

/-- 'stratalaw8.MemAny', WHERE WHAT IT READS IS OF BULK AT MOST 1048576: true; the input reads as it did. -/
def memAnyUptoRow : OpenClaim := { program := "ytdaoinhkagmbdaa", sum := "8b16bf0edae30bbd9ce685f02e4db687ffbb4e2b305a1033dc484ed1c46b0bdd", func := "strata/stratalaw8.MemAny", spec := "memAny", inPlace := ["internal/bytealg.Compare"], unfollowed := true, recurses := true, apart := false, narrowed := true }
def MemAnyUptoSaid : Prop := memAnyUptoRow.holds Try.pinned (OpenSpec.upto memAnySpec)

/-- 'stratalaw8.MemAgain', WHERE WHAT IT READS IS OF BULK AT MOST 1048576: true; the input reads as it did. -/
def memAgainUptoRow : OpenClaim := { program := "ytdaoinhkagmbdaa", sum := "8b16bf0edae30bbd9ce685f02e4db687ffbb4e2b305a1033dc484ed1c46b0bdd", func := "strata/stratalaw8.MemAgain", spec := "memAgain", inPlace := ["internal/bytealg.Compare"], unfollowed := true, recurses := true, apart := false, narrowed := true }
def MemAgainUptoSaid : Prop := memAgainUptoRow.holds Try.pinned (OpenSpec.upto memAgainSpec)

/-- 'stratalaw8.MemPlays', WHERE WHAT IT READS IS OF BULK AT MOST 1048576: true; the input reads as it did. -/
def memPlaysUptoRow : OpenClaim := { program := "ytdaoinhkagmbdaa", sum := "8b16bf0edae30bbd9ce685f02e4db687ffbb4e2b305a1033dc484ed1c46b0bdd", func := "strata/stratalaw8.MemPlays", spec := "memPlays", inPlace := ["internal/bytealg.Compare"], unfollowed := true, recurses := true, apart := false, narrowed := true }
def MemPlaysUptoSaid : Prop := memPlaysUptoRow.holds Try.pinned (OpenSpec.upto memPlaysSpec)

end Rows
end Go.Proofs.Ytdaoinhkagmbdaa
