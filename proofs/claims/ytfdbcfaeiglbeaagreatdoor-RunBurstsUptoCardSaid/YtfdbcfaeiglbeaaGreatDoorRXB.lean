/-
 What these laws need beside: WireW8, WireS2.
-/
import Derived.Test.YtfdbcfaeiglbeaaGreatDoorRXA
import Derived.WalkKit
import Derived.WalkSpells
import Derived.WalkLawsBesides
import Derived.Deep.AppendLies
import Derived.Deep.Draws
import Derived.Maps.AppendAt
import Derived.Lib.Hide
import Derived.Deep.QuietTactic
import Derived.BigQuiet
import Derived.Laws.CopyOwn
import Derived.Laws.BitsAllLaws
import Derived.Maps.OwnSet
import Derived.Laws.IdiomStrings
import Derived.Deep.RegionWith
import Derived.Deep.RegionLaw
import Derived.Lib.BytesEntry
import Derived.Lib.Bytealg
import Derived.Laws.Externs
import Derived.Laws.EntriesVeiled
import Derived.Laws.OwnMore
import Derived.Deep.DeepCutAuto
import Derived.Deep.RegionHeld3
import Derived.Deep.CutRange
import Derived.Lib.SlBytesConst
import Derived.Deep.MidRow
import Derived.Great.BuildSlice
import Derived.RangeFuncNested
import Derived.RangeFuncBound
import Derived.RangeFuncCalls
import Derived.RangeFuncLeaves
import Derived.OwnWalkIn
import Derived.TacticsInMore
import Derived.LoopIn
import Derived.Shelf.Abstract
import Derived.StillTailTactics
import Derived.Lib.Walk
import Derived.Lib.SliceRun
import Derived.Lib.AppendZerosOnto
import Derived.BigRegion
import Derived.Maps.RangeWalk
import Derived.Sort.MapsRangeIn
import Derived.Lib.MinMax
import Derived.Deep.CutBlock
import Derived.Defers
import Derived.ProofKit
import Derived.SizedLaws
import Derived.Lib.SmallJoins
import Derived.Deep.Slices
import Derived.Deep.Fields
import Derived.OpenShut
import Derived.Deep.DeepHandedRow
import Derived.Lib.LaidTab
namespace Go.Proofs.YtfdbcfaeiglbeaaGreatDoor
open Go.RowKit
theorem flipB_set {l:List UInt8} {Z:Nat} (h:Z < 8 * l.length):flipB l (Z:Int)=l.set (Z / 8) (flipU (l[Z / 8]?.getD 0) (Z % 8)):=by
 unfold flipB
 rw [if_pos (by omega),Int.toNat_natCast]
theorem u8s_set (l:List UInt8) (k:Nat) (x:UInt8):(u8s l).set k (u8v x)=u8s (l.set k x):=by
 unfold u8s
 rw [List.map_set]
end Go.Proofs.YtfdbcfaeiglbeaaGreatDoor
namespace Go.Proofs.YtfdbcfaeiglbeaaGreatDoor
open Go.RowKit
theorem OwnB.some {T:TypeId} {base:Nat} {w:World} {A:Option Addr} {c:Nat} {l:List UInt8} (h:OwnB T base w A c l) (hl:0 < l.length):∃ g,A=some ⟨g,0,none⟩∧base≤g∧g < w.heap.size:=by
 obtain ⟨g,cap,e,h1,h2,_⟩:=own_form h hl
 injection e with e _ _
 exact ⟨g,e,h1,h2⟩
end Go.Proofs.YtfdbcfaeiglbeaaGreatDoor
