/-
  No cell of these rows narrows 'for every input' (looked for: loops, veiled, ifaces, maps, wideKeys, modest, calm, conditions, laid).
  DERIVED. THE GIVEN ROWS OF THIS SEAT. 9 by the template 'for every input the law returns true; each argument reads behind the call as it read before'; 0 by the template 'total and deterministic' (their statements: YthjjihipodhkiaaTotals.lean).
  GIVEN WITH THE SEED: the statements are not yours to turn. If you find one false, say at which input.
  Laid BY PROGRAM, IN A SANDBOX (cutbox-rows.mjs): the forced cells as the released guide's own fill.sh prints them over the translation f6ca3787726952a0… (all of the seat's roots in one cut). By AI agents, Wed Nov 11 2026. No macro, syntax, notation, axiom, sorry.
-/
import Derived.Test.YthjjihipodhkiaaChecked
import GoSem.Claim
import GoSem.ClaimJoined
import GoSem.ClaimMapViews
import Derived.JoinedTies
import Derived.KernelRfl
namespace Go.Proofs.Ythjjihipodhkiaa
/- THE CELL 'sum', in the pinned program and in every row, IS THE sha256 OF THE DUMP (.gsa) THAT YthjjihipodhkiaaProg.lean LOADS. Nothing in Lean hashes anything: it is a label: what it is worth is what the hold of that sum in a sandbox is worth. -/
noncomputable def Try.pinned : Pinned := { name := "ythjjihipodhkiaa", sum := "f6ca3787726952a0825ac0bcd82893be09870e272f38ddddb27fd127d36409d4", checked := Try.checked }
namespace Rows
def none {H : Type} : Left H := { results := [], args := [] }

/-- 'stratalaw6.BloomSets': WHATEVER THE INPUT: true; the input reads as it did. -/
def bloomSetsSpec : ChangeSpec := { name := "bloomSets", fn := fun _ => fun
  | [d1, d2, d3] => { results := [.lit (.bool true)], args := [d1, d2, d3] }
  | _ => none }
def bloomSetsRow : OpenClaim := { program := "ythjjihipodhkiaa", sum := "f6ca3787726952a0825ac0bcd82893be09870e272f38ddddb27fd127d36409d4", func := "strata/stratalaw6.BloomSets", spec := "bloomSets", unfollowed := true, recurses := true, apart := false }
def BloomSetsSaid : Prop := bloomSetsRow.holds Try.pinned (OpenSpec.ofChange bloomSetsSpec)

/-- ITS FALSE NEIGHBOUR: 'it returns false'. Refute it at one input. -/
def bloomSetsWrong : ChangeSpec := { name := "bloomSets", fn := fun _ => fun
  | [d1, d2, d3] => { results := [.lit (.bool false)], args := [d1, d2, d3] }
  | _ => none }
def BloomSetsWrongFalsely : Prop := bloomSetsRow.holds Try.pinned (OpenSpec.ofChange bloomSetsWrong)

/-- 'stratalaw6.BloomUnions': WHATEVER THE INPUT: true; the input reads as it did. -/
def bloomUnionsSpec : ChangeSpec := { name := "bloomUnions", fn := fun _ => fun
  | [d1, d2, d3] => { results := [.lit (.bool true)], args := [d1, d2, d3] }
  | _ => none }
def bloomUnionsRow : OpenClaim := { program := "ythjjihipodhkiaa", sum := "f6ca3787726952a0825ac0bcd82893be09870e272f38ddddb27fd127d36409d4", func := "strata/stratalaw6.BloomUnions", spec := "bloomUnions", unfollowed := true, recurses := true, apart := false }
def BloomUnionsSaid : Prop := bloomUnionsRow.holds Try.pinned (OpenSpec.ofChange bloomUnionsSpec)

/-- ITS FALSE NEIGHBOUR: 'it returns false'. Refute it at one input. -/
def bloomUnionsWrong : ChangeSpec := { name := "bloomUnions", fn := fun _ => fun
  | [d1, d2, d3] => { results := [.lit (.bool false)], args := [d1, d2, d3] }
  | _ => none }
def BloomUnionsWrongFalsely : Prop := bloomUnionsRow.holds Try.pinned (OpenSpec.ofChange bloomUnionsWrong)

/-- 'stratalaw6.BloomOwn': WHATEVER THE INPUT: true; the input reads as it did. -/
def bloomOwnSpec : ChangeSpec := { name := "bloomOwn", fn := fun _ => fun
  | [d1, d2] => { results := [.lit (.bool true)], args := [d1, d2] }
  | _ => none }
def bloomOwnRow : OpenClaim := { program := "ythjjihipodhkiaa", sum := "f6ca3787726952a0825ac0bcd82893be09870e272f38ddddb27fd127d36409d4", func := "strata/stratalaw6.BloomOwn", spec := "bloomOwn", unfollowed := true, recurses := true, apart := false }
def BloomOwnSaid : Prop := bloomOwnRow.holds Try.pinned (OpenSpec.ofChange bloomOwnSpec)

/-- ITS FALSE NEIGHBOUR: 'it returns false'. Refute it at one input. -/
def bloomOwnWrong : ChangeSpec := { name := "bloomOwn", fn := fun _ => fun
  | [d1, d2] => { results := [.lit (.bool false)], args := [d1, d2] }
  | _ => none }
def BloomOwnWrongFalsely : Prop := bloomOwnRow.holds Try.pinned (OpenSpec.ofChange bloomOwnWrong)

/-- 'stratalaw6.BloomApart': WHATEVER THE INPUT: true; the input reads as it did. -/
def bloomApartSpec : ChangeSpec := { name := "bloomApart", fn := fun _ => fun
  | [d1, d2, d3] => { results := [.lit (.bool true)], args := [d1, d2, d3] }
  | _ => none }
def bloomApartRow : OpenClaim := { program := "ythjjihipodhkiaa", sum := "f6ca3787726952a0825ac0bcd82893be09870e272f38ddddb27fd127d36409d4", func := "strata/stratalaw6.BloomApart", spec := "bloomApart", unfollowed := true, recurses := true, apart := false }
def BloomApartSaid : Prop := bloomApartRow.holds Try.pinned (OpenSpec.ofChange bloomApartSpec)

/-- ITS FALSE NEIGHBOUR: 'it returns false'. Refute it at one input. -/
def bloomApartWrong : ChangeSpec := { name := "bloomApart", fn := fun _ => fun
  | [d1, d2, d3] => { results := [.lit (.bool false)], args := [d1, d2, d3] }
  | _ => none }
def BloomApartWrongFalsely : Prop := bloomApartRow.holds Try.pinned (OpenSpec.ofChange bloomApartWrong)

/-- 'stratalaw6.BloomBuilds': WHATEVER THE INPUT: true; the input reads as it did. -/
def bloomBuildsSpec : ChangeSpec := { name := "bloomBuilds", fn := fun _ => fun
  | [d] => { results := [.lit (.bool true)], args := [d] }
  | _ => none }
def bloomBuildsRow : OpenClaim := { program := "ythjjihipodhkiaa", sum := "f6ca3787726952a0825ac0bcd82893be09870e272f38ddddb27fd127d36409d4", func := "strata/stratalaw6.BloomBuilds", spec := "bloomBuilds", unfollowed := true, recurses := true, apart := false }
def BloomBuildsSaid : Prop := bloomBuildsRow.holds Try.pinned (OpenSpec.ofChange bloomBuildsSpec)

/-- ITS FALSE NEIGHBOUR: 'it returns false'. Refute it at one input. -/
def bloomBuildsWrong : ChangeSpec := { name := "bloomBuilds", fn := fun _ => fun
  | [d] => { results := [.lit (.bool false)], args := [d] }
  | _ => none }
def BloomBuildsWrongFalsely : Prop := bloomBuildsRow.holds Try.pinned (OpenSpec.ofChange bloomBuildsWrong)

/-- 'stratalaw6.BloomAnswers': WHATEVER THE INPUT: true; the input reads as it did. -/
def bloomAnswersSpec : ChangeSpec := { name := "bloomAnswers", fn := fun _ => fun
  | [d] => { results := [.lit (.bool true)], args := [d] }
  | _ => none }
def bloomAnswersRow : OpenClaim := { program := "ythjjihipodhkiaa", sum := "f6ca3787726952a0825ac0bcd82893be09870e272f38ddddb27fd127d36409d4", func := "strata/stratalaw6.BloomAnswers", spec := "bloomAnswers", unfollowed := true, recurses := true, apart := false }
def BloomAnswersSaid : Prop := bloomAnswersRow.holds Try.pinned (OpenSpec.ofChange bloomAnswersSpec)

/-- ITS FALSE NEIGHBOUR: 'it returns false'. Refute it at one input. -/
def bloomAnswersWrong : ChangeSpec := { name := "bloomAnswers", fn := fun _ => fun
  | [d] => { results := [.lit (.bool false)], args := [d] }
  | _ => none }
def BloomAnswersWrongFalsely : Prop := bloomAnswersRow.holds Try.pinned (OpenSpec.ofChange bloomAnswersWrong)

/-- 'stratalaw6.BloomPlays': WHATEVER THE INPUT: true; the input reads as it did. -/
def bloomPlaysSpec : ChangeSpec := { name := "bloomPlays", fn := fun _ => fun
  | [d] => { results := [.lit (.bool true)], args := [d] }
  | _ => none }
def bloomPlaysRow : OpenClaim := { program := "ythjjihipodhkiaa", sum := "f6ca3787726952a0825ac0bcd82893be09870e272f38ddddb27fd127d36409d4", func := "strata/stratalaw6.BloomPlays", spec := "bloomPlays", unfollowed := true, recurses := true, apart := false }
def BloomPlaysSaid : Prop := bloomPlaysRow.holds Try.pinned (OpenSpec.ofChange bloomPlaysSpec)

/-- ITS FALSE NEIGHBOUR: 'it returns false'. Refute it at one input. -/
def bloomPlaysWrong : ChangeSpec := { name := "bloomPlays", fn := fun _ => fun
  | [d] => { results := [.lit (.bool false)], args := [d] }
  | _ => none }
def BloomPlaysWrongFalsely : Prop := bloomPlaysRow.holds Try.pinned (OpenSpec.ofChange bloomPlaysWrong)

/-- 'stratalaw6.BloomNeverNo': WHATEVER THE INPUT: true; the input reads as it did. -/
def bloomNeverNoSpec : ChangeSpec := { name := "bloomNeverNo", fn := fun _ => fun
  | [d1, d2, d3] => { results := [.lit (.bool true)], args := [d1, d2, d3] }
  | _ => none }
def bloomNeverNoRow : OpenClaim := { program := "ythjjihipodhkiaa", sum := "f6ca3787726952a0825ac0bcd82893be09870e272f38ddddb27fd127d36409d4", func := "strata/stratalaw6.BloomNeverNo", spec := "bloomNeverNo", unfollowed := true, recurses := true, apart := false }
def BloomNeverNoSaid : Prop := bloomNeverNoRow.holds Try.pinned (OpenSpec.ofChange bloomNeverNoSpec)

/-- ITS FALSE NEIGHBOUR: 'it returns false'. Refute it at one input. -/
def bloomNeverNoWrong : ChangeSpec := { name := "bloomNeverNo", fn := fun _ => fun
  | [d1, d2, d3] => { results := [.lit (.bool false)], args := [d1, d2, d3] }
  | _ => none }
def BloomNeverNoWrongFalsely : Prop := bloomNeverNoRow.holds Try.pinned (OpenSpec.ofChange bloomNeverNoWrong)

/-- 'stratalaw6.BloomLent': WHATEVER THE INPUT: true; the input reads as it did. -/
def bloomLentSpec : ChangeSpec := { name := "bloomLent", fn := fun _ => fun
  | [d1, d2] => { results := [.lit (.bool true)], args := [d1, d2] }
  | _ => none }
def bloomLentRow : OpenClaim := { program := "ythjjihipodhkiaa", sum := "f6ca3787726952a0825ac0bcd82893be09870e272f38ddddb27fd127d36409d4", func := "strata/stratalaw6.BloomLent", spec := "bloomLent", unfollowed := true, recurses := true, apart := false }
def BloomLentSaid : Prop := bloomLentRow.holds Try.pinned (OpenSpec.ofChange bloomLentSpec)

/-- ITS FALSE NEIGHBOUR: 'it returns false'. Refute it at one input. -/
def bloomLentWrong : ChangeSpec := { name := "bloomLent", fn := fun _ => fun
  | [d1, d2] => { results := [.lit (.bool false)], args := [d1, d2] }
  | _ => none }
def BloomLentWrongFalsely : Prop := bloomLentRow.holds Try.pinned (OpenSpec.ofChange bloomLentWrong)

/- THE SECOND FORM. 'bulk': how many values and letters a reading holds, each counted each time it is reached (what is shared counts as often as it is met; a slice's spare places count too). A statement '..UptoSaid' is the law's where the arguments, and the package variables that the reading takes, are together of bulk at most 1048576: NARROWER than '..Said'. Prove '..Said' where nothing that the law and all that it calls make is longer than what came in: it says more and counts as full. Else prove '..UptoSaid'. A law counts once. -/
mutual
def uptoBulk {H : Type} : DataW H → Nat
  | .lit (.string bytes) => bytes.length + 1
  | .lit _ => 1
  | .nil => 1
  | .ptr d => uptoBulk d + 1
  | .slice elems spare => uptoBulkAll elems + uptoBulkAll spare + 1
  | .agg parts => uptoBulkAll parts + 1
  | .iface _ d => uptoBulk d + 1
  | .map entries => uptoBulkEntries entries + 1
  | .held _ => 1
def uptoBulkAll {H : Type} : List (DataW H) → Nat
  | [] => 0
  | d :: r => uptoBulk d + uptoBulkAll r
def uptoBulkEntries {H : Type} : List (Lit × DataW H) → Nat
  | [] => 0
  | x :: r => uptoBulkEntry x + uptoBulkEntries r
def uptoBulkEntry {H : Type} : Lit × DataW H → Nat
  | (.string bytes, d) => bytes.length + uptoBulk d + 1
  | (_, d) => uptoBulk d + 1
 end
def uptoSmall : (H : Type) → List (DataW H) → Bool := fun _ ds => decide (uptoBulkAll ds ≤ 1048576)
def OpenSpec.upto (s : _root_.Go.ChangeSpec) : _root_.Go.OpenSpec := { _root_.Go.OpenSpec.ofChange s with cond := some uptoSmall }

/-- 'stratalaw6.BloomSets', WHERE WHAT IT READS IS OF BULK AT MOST 1048576: true; the input reads as it did. -/
def bloomSetsUptoRow : OpenClaim := { program := "ythjjihipodhkiaa", sum := "f6ca3787726952a0825ac0bcd82893be09870e272f38ddddb27fd127d36409d4", func := "strata/stratalaw6.BloomSets", spec := "bloomSets", unfollowed := true, recurses := true, apart := false, narrowed := true }
def BloomSetsUptoSaid : Prop := bloomSetsUptoRow.holds Try.pinned (OpenSpec.upto bloomSetsSpec)

/-- 'stratalaw6.BloomUnions', WHERE WHAT IT READS IS OF BULK AT MOST 1048576: true; the input reads as it did. -/
def bloomUnionsUptoRow : OpenClaim := { program := "ythjjihipodhkiaa", sum := "f6ca3787726952a0825ac0bcd82893be09870e272f38ddddb27fd127d36409d4", func := "strata/stratalaw6.BloomUnions", spec := "bloomUnions", unfollowed := true, recurses := true, apart := false, narrowed := true }
def BloomUnionsUptoSaid : Prop := bloomUnionsUptoRow.holds Try.pinned (OpenSpec.upto bloomUnionsSpec)

/-- 'stratalaw6.BloomOwn', WHERE WHAT IT READS IS OF BULK AT MOST 1048576: true; the input reads as it did. -/
def bloomOwnUptoRow : OpenClaim := { program := "ythjjihipodhkiaa", sum := "f6ca3787726952a0825ac0bcd82893be09870e272f38ddddb27fd127d36409d4", func := "strata/stratalaw6.BloomOwn", spec := "bloomOwn", unfollowed := true, recurses := true, apart := false, narrowed := true }
def BloomOwnUptoSaid : Prop := bloomOwnUptoRow.holds Try.pinned (OpenSpec.upto bloomOwnSpec)

/-- 'stratalaw6.BloomApart', WHERE WHAT IT READS IS OF BULK AT MOST 1048576: true; the input reads as it did. -/
def bloomApartUptoRow : OpenClaim := { program := "ythjjihipodhkiaa", sum := "f6ca3787726952a0825ac0bcd82893be09870e272f38ddddb27fd127d36409d4", func := "strata/stratalaw6.BloomApart", spec := "bloomApart", unfollowed := true, recurses := true, apart := false, narrowed := true }
def BloomApartUptoSaid : Prop := bloomApartUptoRow.holds Try.pinned (OpenSpec.upto bloomApartSpec)

/-- 'stratalaw6.BloomBuilds', WHERE WHAT IT READS IS OF BULK AT MOST 1048576: true; the input reads as it did. -/
def bloomBuildsUptoRow : OpenClaim := { program := "ythjjihipodhkiaa", sum := "f6ca3787726952a0825ac0bcd82893be09870e272f38ddddb27fd127d36409d4", func := "strata/stratalaw6.BloomBuilds", spec := "bloomBuilds", unfollowed := true, recurses := true, apart := false, narrowed := true }
def BloomBuildsUptoSaid : Prop := bloomBuildsUptoRow.holds Try.pinned (OpenSpec.upto bloomBuildsSpec)

/-- 'stratalaw6.BloomAnswers', WHERE WHAT IT READS IS OF BULK AT MOST 1048576: true; the input reads as it did. -/
def bloomAnswersUptoRow : OpenClaim := { program := "ythjjihipodhkiaa", sum := "f6ca3787726952a0825ac0bcd82893be09870e272f38ddddb27fd127d36409d4", func := "strata/stratalaw6.BloomAnswers", spec := "bloomAnswers", unfollowed := true, recurses := true, apart := false, narrowed := true }
def BloomAnswersUptoSaid : Prop := bloomAnswersUptoRow.holds Try.pinned (OpenSpec.upto bloomAnswersSpec)

/-- 'stratalaw6.BloomPlays', WHERE WHAT IT READS IS OF BULK AT MOST 1048576: true; the input reads as it did. -/
def bloomPlaysUptoRow : OpenClaim := { program := "ythjjihipodhkiaa", sum := "f6ca3787726952a0825ac0bcd82893be09870e272f38ddddb27fd127d36409d4", func := "strata/stratalaw6.BloomPlays", spec := "bloomPlays", unfollowed := true, recurses := true, apart := false, narrowed := true }
def BloomPlaysUptoSaid : Prop := bloomPlaysUptoRow.holds Try.pinned (OpenSpec.upto bloomPlaysSpec)

/-- 'stratalaw6.BloomNeverNo', WHERE WHAT IT READS IS OF BULK AT MOST 1048576: true; the input reads as it did. -/
def bloomNeverNoUptoRow : OpenClaim := { program := "ythjjihipodhkiaa", sum := "f6ca3787726952a0825ac0bcd82893be09870e272f38ddddb27fd127d36409d4", func := "strata/stratalaw6.BloomNeverNo", spec := "bloomNeverNo", unfollowed := true, recurses := true, apart := false, narrowed := true }
def BloomNeverNoUptoSaid : Prop := bloomNeverNoUptoRow.holds Try.pinned (OpenSpec.upto bloomNeverNoSpec)

/-- 'stratalaw6.BloomLent', WHERE WHAT IT READS IS OF BULK AT MOST 1048576: true; the input reads as it did. -/
def bloomLentUptoRow : OpenClaim := { program := "ythjjihipodhkiaa", sum := "f6ca3787726952a0825ac0bcd82893be09870e272f38ddddb27fd127d36409d4", func := "strata/stratalaw6.BloomLent", spec := "bloomLent", unfollowed := true, recurses := true, apart := false, narrowed := true }
def BloomLentUptoSaid : Prop := bloomLentUptoRow.holds Try.pinned (OpenSpec.upto bloomLentSpec)

end Rows
end Go.Proofs.Ythjjihipodhkiaa
