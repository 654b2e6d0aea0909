/-
 BlockD2.
-/
import Derived.Test.YtfdbcfaeiglbeaaGreatDoorRZ13
import Derived.Test.YtfdbcfaeiglbeaaGreatDoorRZ16
import Derived.Lib.SlBytesConst
namespace Go.Proofs.YtfdbcfaeiglbeaaGreatDoor
open Go.RowKit
theorem rCheckE_any (e:Ent) (A:Option Addr) (n c:Nat) (B:Option Addr) (m d:Nat) (D:Option Addr) (v q:Nat) (w:World) (h:En w A n c B m d D v q e):Calls Tryz.prog 96 #[entV A n c B m d D v q e] w fun r y=>r = .returned (.int .i64 (checkE e))∧Below w.heap.size w y:=by
 have h1:=h.row.len
 have h2:=h.qual.len
 have h3:=h.val.len
 unfold checkE
 rw [h1,h2,h3]
 exact rCheck_any A n c e.fam B m d e.ts e.seq e.kind D v q w
theorem size_step (R:Nat) (s:BSt) (k v:List UInt8):sizeS (stepB R s k v)=sizeS s + (if s.n % R=0 then 4 else 0) + (rowK (alikeB R s k) k v).length:=by
 have h1:(stepB R s k v).body=s.body ++ rowK (alikeB R s k) k v:=rfl
 have h2:(stepB R s k v).places=placesB R s:=rfl
 unfold sizeS
 rw [h1,h2,List.length_append]
 unfold placesB
 split
 ·rw [List.length_append];show _ + _ + 4 * (_ + 1) + 9=_;omega
 ·omega
end Go.Proofs.YtfdbcfaeiglbeaaGreatDoor
