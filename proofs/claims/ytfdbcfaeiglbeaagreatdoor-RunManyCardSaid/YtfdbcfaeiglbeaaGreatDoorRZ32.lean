/-
 BlockQ2.
-/
import Derived.Test.YtfdbcfaeiglbeaaGreatDoorRZ16
import Derived.Test.YtfdbcfaeiglbeaaGreatDoorRZ31
namespace Go.Proofs.YtfdbcfaeiglbeaaGreatDoor
open Go.RowKit
theorem REntP.no {b key:List UInt8} {a:Nat} {w z:World} {r:Ending} (h:REntP b a key w r z) (hq:rq1 b a key=none):r = .returned (.tuple #[entV none 0 0 none 0 0 none 0 0 noEnt,.slice none 0 0,.int .i64 0,.bool false])∧Below w.heap.size w z:=by
 rcases h with ⟨_,h⟩ | ⟨e,k,p,A,c,B,d,D,q,KA,kc,h,_⟩
 ·exact h
 ·rw [hq] at h;cases h
def rowE (r:ER):List Ob:=[bytO 5 (r.A,r.c,r.e.row),bytO 5 (r.B,r.d,r.e.qual),bytO 5 (r.D,r.q,r.e.val)]
theorem rowE_snoc (rs:List ER) (r:ER):(rs ++ [r]).flatMap rowE=rs.flatMap rowE ++ rowE r:=by rw [List.flatMap_append,List.flatMap_cons,List.flatMap_nil,List.append_nil]
theorem cellE_snoc (rs:List ER) (r:ER):(rs ++ [r]).flatMap ER.cells=rs.flatMap ER.cells ++ r.cells:=by rw [List.flatMap_append,List.flatMap_cons,List.flatMap_nil,List.append_nil]
def entsO (A:Option Addr) (n c:Nat) (rs:List ER):List Ob:=rowO 60 7 (.slice A n c) n (rs.flatMap ER.cells)::rs.flatMap rowE
theorem rowE_ens {w x:World} {os:List Ob} {A:Option Addr} {n c:Nat} {rs:List ER} (h:OW w (entsO A n c rs ++ os) x):Ens x A n (rs.map ER.e):=by
 refine h.ens (T:=60) (i:=0) rfl fun r hr=>?_
 have hm:∀ o,o ∈ rowE r→o ∈ entsO A n c rs ++ os:=fun o ho=>List.mem_append_left _ (List.mem_cons_of_mem _ (List.mem_flatMap.2 ⟨r,hr,ho⟩))
 exact ⟨h.slm (T:=5) (hm _ (by simp [rowE])) rfl,h.slm (T:=5) (hm _ (by simp [rowE])) rfl,h.slm (T:=5) (hm _ (by simp [rowE])) rfl⟩
end Go.Proofs.YtfdbcfaeiglbeaaGreatDoor
