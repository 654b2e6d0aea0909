/-
 Layer 7: RunMany's entry.
-/
import Derived.Test.YtfdbcfaeiglbeaaGreatDoorRunP14
namespace Go.Proofs.YtfdbcfaeiglbeaaGreatDoor
open Go.RowKit
def qObj:Obj := .cells #[.int .u8 113] 5 (1,2)
def MIn (T:List Ob) (s:ER):Prop:=bytO 5 (s.A,s.c,s.e.row) ∈ T∧(∃ g,s.B=some ⟨g,0,none⟩∧rawO g qObj ∈ T)∧s.d=1∧s.e.qual=[113]∧bytO 5 (s.D,s.q,s.e.val) ∈ T
theorem MIn.more {T T':List Ob} {s:ER} (h:MIn T s) (hs:∀ o,o ∈ T→o ∈ T'):MIn T' s:=by
 obtain ⟨h1,⟨g,h2,h3⟩,h4,h5,h6⟩:=h
 exact ⟨hs _ h1,⟨g,h2,hs _ h3⟩,h4,h5,hs _ h6⟩
theorem q_sl {w x:World} {os:List Ob} {g:Nat} (h:OW w os x) (hm:rawO g qObj ∈ os):Sl x (some ⟨g,0,none⟩) 1 1 [113]:=by
 obtain ⟨i,hi⟩:=List.getElem?_of_mem hm
 obtain ⟨_,h2⟩:=h.rawh hi
 have hl:g < x.heap.size:=(Array.getElem?_eq_some_iff.1 h2).1
 refine ⟨⟨rfl,fun _=>⟨g,0,rfl,hl,fun j u hu=>?_⟩⟩,Nat.le_refl _,by decide,fun h=>(by cases h)⟩
 match j,hu with
 | 0,hu =>
  injection hu with hu
  subst hu
  simp [World.cell?,h2,qObj]
  rfl
theorem MIn.en {w x:World} {os:List Ob} {s:ER} (h:OW w os x) (hm:MIn os s):s.En x:=by
 obtain ⟨h1,⟨g,h2,h3⟩,h4,h5,h6⟩:=hm
 refine ⟨h.slm h1 rfl,?_,h.slm h6 rfl⟩
 rw [h2,h4,h5]
 exact q_sl h h3
theorem made_zeros7 (L:Nat) (g:Nat):rowO 5 1 (.slice (some ⟨g,0,none⟩) L L) L (madeCells (Value.int IntKind.u8 0).cells (L * 1)).toList=bytO 5 (some ⟨g,0,none⟩,L,List.replicate L 0):=by
 unfold bytO
 rw [Nat.mul_one,made_zeros,List.length_replicate]
 rfl
theorem row_lit (x:World) (i:Nat) (hi:i < 65536):OW x [bytO 5 (some ⟨x.heap.size,0,none⟩,3,[UInt8.ofNat (i / 256),UInt8.ofNat i,1])] (x.alloc (.cells #[.int .u8 ((i:Int) / 256),.int .u8 ((i:Int) % 256),.int .u8 1] 5)):=by
 have e1:((UInt8.ofNat (i / 256)).toNat:Int)=(i:Int) / 256:=by
  have h:(UInt8.ofNat (i / 256)).toNat=i / 256 % 256:=UInt8.toNat_ofNat'
  rw [h];omega
 have e2:((UInt8.ofNat i).toNat:Int)=(i:Int) % 256:=by
  have h:(UInt8.ofNat i).toNat=i % 256:=UInt8.toNat_ofNat'
  rw [h];omega
 have h:=OW.lit1 x #[.int .u8 ((i:Int) / 256),.int .u8 ((i:Int) % 256),.int .u8 1] 5 1 3 (by decide) rfl
 have e3:u8s [UInt8.ofNat (i / 256),UInt8.ofNat i,1]=[.int .u8 ((i:Int) / 256),.int .u8 ((i:Int) % 256),.int .u8 1]:=by
  show [Value.int .u8 _,.int .u8 _,.int .u8 _]=_
  rw [e1,e2];rfl
 unfold bytO
 rw [e3]
 exact h
set_option maxRecDepth 1000000 in
set_option maxHeartbeats 4000000 in
theorem entry7_any (i sz:Nat) (hi:i < 65536) (hs:sz≤4096) (w:World):Calls Tryz.prog 26 #[.int .i64 i,.int .i64 sz] w fun e z=>∃ (s:ER) (T:List Ob),s.e=entM sz i∧e = .returned s.v∧MIn T s∧OW w T z:=by
 have kc:=conv_const
 have HX:=Lib.hid (OW.nil w)
 have HRL:=Lib.hid fun x=>row_lit x i hi
 go_enter Tryz.func26,Tryz.ntmps26
 go_wp2_with (first
  | (refine wl_alloc rfl rfl [.slice none 0 0,.int .i64 0,.slice none 0 0,.int .i64 0,.int .i64 0,.int .i64 0,.slice none 0 0] (.inl (by kernel_rfl)) HX.out ?_;intro g4 x1 hz _;have HX1:Hid (OW w [boxO g4 [.slice none 0 0,.int .i64 0,.slice none 0 0,.int .i64 0,.int .i64 0,.int .i64 0,.slice none 0 0]] x1):=Lib.hid hz;clear hz HX)
  | (at_make;have HX2:=Lib.hid ((HX1.out.app (HRL.out x1)).app (OW.raw1 _ qObj));rw [World.size_alloc] at HX2;go_must (refine wl_makeN rfl _ _ rfl Tryz.u8s' (.int .u8 0) (by kernel_rfl) sz _ _ rfl rfl rfl rfl (by omega) (by unfold maxLen;omega) HX2.out ?_);intro g5 x3 hz _;rw [made_zeros7] at hz;have HX3:=Lib.hid hz;clear hz HX2)
  | (refine wl_put rfl (.tmp 4) (.tmp 15) rfl HX3.out 0 rfl rfl [.slice (some ⟨x1.heap.size,0,none⟩) 3 3,.int .i64 0,.slice (some ⟨x1.heap.size + 1,0,none⟩) 1 1,.int .i64 7,.int .i64 33,.int .i64 1,.slice (some ⟨g5,0,none⟩) sz sz] rfl rfl (by kernel_rfl) (by simp [Value.oneCell']) ?_;intro x4 hz _;have HX4:=Lib.hid hz;clear hz HX3))
 refine bodyPost_ret (results_rowL rfl _ _ g4 [.slice (some ⟨x1.heap.size,0,none⟩) 3 3,.int .i64 0,.slice (some ⟨x1.heap.size + 1,0,none⟩) 1 1,.int .i64 7,.int .i64 33,.int .i64 1,.slice (some ⟨g5,0,none⟩) sz sz] rfl (HX4.out.range (i:=0) rfl) (by kernel_rfl) (by kernel_rfl)) rfl ?_
 refine ⟨⟨some ⟨x1.heap.size,0,none⟩,3,some ⟨x1.heap.size + 1,0,none⟩,1,some ⟨g5,0,none⟩,sz,entM sz i⟩,_,rfl,?_,⟨.tail _ (.head _),⟨_,rfl,.tail _ (.tail _ (.head _))⟩,rfl,rfl,.tail _ (.tail _ (.tail _ (.head _)))⟩,HX4.out⟩
 show Ending.returned (Value.agg #[.slice _ 3 3,_,_,_,_,_,.slice _ sz sz]) = .returned (.agg #[.slice _ _ _,_,_,_,_,_,.slice _ (List.replicate sz (0:UInt8)).length _])
 rw [List.length_replicate];rfl
end Go.Proofs.YtfdbcfaeiglbeaaGreatDoor
