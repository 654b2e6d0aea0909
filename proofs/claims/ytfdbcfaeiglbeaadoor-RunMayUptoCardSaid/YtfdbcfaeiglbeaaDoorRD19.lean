/-
 BlockC3.
-/
import Derived.Test.YtfdbcfaeiglbeaaDoorRD18
namespace Go.Proofs.YtfdbcfaeiglbeaaDoor
open Go.RowKit
theorem readBy_le5 (l:List UInt8) (a most:Int):(readBy l a most).1.length≤l.length:=by
 unfold readBy
 split
 ·exact Nat.zero_le _
 ·split
  ·exact Nat.zero_le _
  ·split
   ·exact Nat.zero_le _
   ·split
    ·exact Nat.zero_le _
    ·unfold cutS;simp only [List.length_take,List.length_drop];omega
theorem Tryd.entsS:SliceOf Tryd.prog 24 30 7 104:=SliceOf.mk' (z := .agg #[.slice none 0 0,.int .i64 0,.slice none 0 0,.int .i64 0,.int .i64 0,.int .i64 0,.slice none 0 0]) Tryd.underlying24 (by kernel_rfl) rfl (by decide)
theorem Tryd.keyS5:SliceOf Tryd.prog 25 28 1 24:=SliceOf.mk' (z := .slice none 0 0) Tryd.underlying25 (by kernel_rfl) rfl (by decide)
def KeyAt (zs:List ZR) (A:Option Addr) (c:Nat) (key:List UInt8):Prop:=(A=none∧c=0∧key=[])∨∃ z,z ∈ zs∧z.2=(A,c,key)
theorem KeyAt.sl {zs:List ZR} {A:Option Addr} {c kl:Nat} {key:List UInt8} (h:KeyAt zs A c key) (hk:key.length=kl) {w x:World} {os:List Ob} (hx:OW w os x) (hm:∀ z,z ∈ zs→bytO 5 z.2 ∈ os):Sl x A kl c key:=by
 rcases h with ⟨rfl,rfl,rfl⟩ | ⟨z,hz,e⟩
 ·subst hk;exact Sl.none _
 ·exact hx.slm (by rw [← e];exact hm z hz) hk
theorem KeyAt.len {zs:List ZR} {A:Option Addr} {c:Nat} {key:List UInt8} (h:KeyAt zs A c key) (hz:ZOk zs):key.length≤1048:=by
 rcases h with ⟨_,_,rfl⟩ | ⟨z,hm,e⟩
 ·exact Nat.zero_le _
 ·obtain ⟨h1,h2⟩:=hz z hm
  rw [e] at h1
  have h1:key=keyE z.1.e:=h1
  rw [h1];exact h2
end Go.Proofs.YtfdbcfaeiglbeaaDoor
