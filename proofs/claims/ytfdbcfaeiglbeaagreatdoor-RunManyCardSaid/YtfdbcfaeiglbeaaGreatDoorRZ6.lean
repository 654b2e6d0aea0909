/-
 CellW3.
-/
import Derived.Test.YtfdbcfaeiglbeaaGreatDoorRZ4
import Derived.Test.YtfdbcfaeiglbeaaGreatDoorRZ5
namespace Go.Proofs.YtfdbcfaeiglbeaaGreatDoor
open Go.RowKit
set_option maxRecDepth 100000 in
theorem flag_any (b:Bool) (w:World):Calls Tryz.prog 167 #[.bool b] w fun e w'=>e = .returned (.int .u8 ((flg b).toNat:Int))∧w=w':=by
 cases b <;> (go_enter Tryz.func167,Tryz.ntmps167;go_wp2;go_ret;exact ⟨rfl,rfl⟩)
theorem idx_two0 (T S:Int) (w:World):(Instr.index 117 (.agg #[.int .i64 T,.int .i64 S]) (.int .i64 0)).run Tryz.prog w = .ok (.int .i64 T) w:=run_index_arr w _ 3 2 _ 0 _ (by kernel_rfl) (by kernel_rfl) (by kernel_rfl) (by decide) rfl
theorem idx_two1 (T S:Int) (w:World):(Instr.index 117 (.agg #[.int .i64 T,.int .i64 S]) (.int .i64 1)).run Tryz.prog w = .ok (.int .i64 S) w:=run_index_arr w _ 3 2 _ 1 _ (by kernel_rfl) (by kernel_rfl) (by kernel_rfl) (by decide) rfl
theorem falling_at (v:Nat) (w:World) (hv:v < 9223372036854775808):Calls Tryz.prog 168 #[.int .i64 v] w fun e w'=>∃ A c,e = .returned (.tuple #[.slice A 8 c,.int .i64 0])∧Sl w' A 8 c (numK v)∧Below w.heap.size w w':=by
 refine (falling_any v w hv).mono fun e w' h=>?_
 obtain ⟨A,c,h1,h2,h3,h4⟩:=BytesPost2.at_ h (risB_len _) rfl
 exact ⟨A,c,h1,by unfold numK;rw [Int.toNat_natCast];exact h2,h4⟩
set_option maxRecDepth 100000 in
set_option maxHeartbeats 2000000 in
theorem key_five (row qual:List UInt8) (A:Option Addr) (n c F:Nat) (B:Option Addr) (m d T S:Nat) (D:Option Addr) (v q:Nat) (w:World) (hrow:Sl w A n c row) (hqual:Sl w B m d qual) (hz:checkN n F m T S 5 v=0) :
  Calls Tryz.prog 111 #[.agg #[.slice A n c,.int .i64 (F:Int),.slice B m d,.int .i64 (T:Int),.int .i64 (S:Int),.int .i64 5,.slice D v q]] w (BytesPost2 5 (keyE ⟨row,F,qual,T,S,5,[]⟩) 0 w):=by
 obtain ⟨z1,z2,z3,z4,z5,z6,-⟩:=checkN_ok hz
 have HN:Hid (n≤256∧m≤256∧T≤1099511627776∧S≤17592186044431):=Lib.hid (by omega)
 have HR:Hid (∀ x,Below w.heap.size w x→Sl x A n c row):=Lib.hid fun x h=>hrow.later h
 have HQ:Hid (∀ x,Below w.heap.size w x→Sl x B m d qual):=Lib.hid fun x h=>hqual.later h
 have HLEN:Hid ((ordB row).length≤514∧(ordB qual).length≤514):=Lib.hid (by
  have h1:=ordB_len row;have h2:=ordB_len qual;have h3:=hrow.len;have h4:=hqual.len;omega)
 have HZ:=Lib.hid hz
 have HX0:=Lib.hid (Bx.new w #[.slice A n c,.int .i64 (F:Int),.slice B m d,.int .i64 (T:Int),.int .i64 (S:Int),.int .i64 5,.slice D v q] 60)
 clear hz z1 z2 z3 z4 z5 z6 hrow hqual
 go_enter Tryz.func111,Tryz.ntmps111
 go_wp2_with (go_at_call 161;go_must (refine (check_any _ _ _ _ _ _ _ _ _ _ _ _ _ _).mono ?_);rintro e x1 ⟨rfl,hb1⟩;rw [HZ.out];have HX1:=Lib.hid (HX0.out.later hb1);clear hb1 HX0)
 have c0:=HX1.out.cell (i:=0) (v := .slice A n c) rfl;have c1:=HX1.out.cell (i:=1) (v := .int .i64 (F:Int)) rfl;have c5:=HX1.out.cell (i:=5) (v := .int .i64 5) rfl
 go_region_held3 (fun x=>x.cell? ⟨w.heap.size,0,none⟩=some (.slice A n c)∧x.cell? ⟨w.heap.size,1,none⟩=some (.int .i64 (F:Int))∧x.cell? ⟨w.heap.size,5,none⟩=some (.int .i64 5)∧Bx w #[.slice A n c,.int .i64 (F:Int),.slice B m d,.int .i64 (T:Int),.int .i64 (S:Int),.int .i64 5,.slice D v q] x) (first | assumption | exact ⟨c0,c1,c5,HX1.out.later (Below.refl _ _).drew⟩ | exact keepB3 ‹_∧_∧_∧Bx _ _ _› hb2 | exact keepA3 ‹_∧_∧_∧Bx _ _ _› | exact keepG3 ‹_∧_∧_∧Bx _ _ _› (own_below hO2 ((Below.refl _ _).alloc (Nat.le_refl _) _)) hg3) (first
  | (go_at_call 166;refine (ordered_any row A n c _ (by have:=HN.out;omega) (HR.out _ (‹_∧_∧_∧Bx _ _ _›).2.2.2.up).rb).mono ?_;rintro e x2 ⟨A2,c2,rfl,hO2,hb2⟩;have hO2:=own_low hO2 (‹_∧_∧_∧Bx _ _ _›).2.2.2.size)
  | (go_at_call 167;refine (flag_any _ _).mono ?_;rintro e w0 ⟨rfl,rfl⟩)
  | (refine step_append_cells _ (by rfl) _ _ (by rfl) Tryz.u8s' (w.heap.size + 1) (.slice A2 (ordB row).length c2) (ordB row).length (u8s (ordB row)) (by rfl) (own_below hO2 ((Below.refl _ _).alloc (Nat.le_refl _) _)) (x2.heap.size + 1) (some ⟨x2.heap.size,0,none⟩) 2 2 (u8s [UInt8.ofNat F,flg true]) (by rfl) (by exact reads_lit x2 _ [UInt8.ofNat F,flg true] _ _ (by show [Value.int .u8 (IntKind.u8.wrap (F:Int)),_]=[u8v _,u8v _];rw [u8v_mod,IntKind.wrap_u8];rfl)) (u8s_one _) (by have:=HLEN.out;unfold maxLen;omega) (by have:=HLEN.out;omega) (‹_∧_∧_∧Bx _ _ _›).2.2.2.size ?_;intro v3 x3 hown3 hg3 hat3 hold3 hcell3))
 all_goals
  obtain ⟨-,-,-,hx3⟩:=‹_∧_∧_∧Bx _ _ x3›
  have HX3:=Lib.hid hx3
  rw [← u8s_append] at hown3
  have HO3:=Lib.hid hown3
  clear hx3 hown3 hg3 hat3 hold3 hcell3 hO2 hb2 c0 c1 c5
  have q3_3:=HX3.out.cell (i:=3) (v := .int .i64 (T:Int)) rfl
  have q3_4:=HX3.out.cell (i:=4) (v := .int .i64 (S:Int)) rfl
  go_wp2_with fail
  clear HX1
  generalize IntKind.u8.wrap (F:Int)=wf
  obtain ⟨P,hP⟩:∃ P,P=ordB row ++ [UInt8.ofNat F,flg true]:=⟨_,rfl⟩
  have HP:=Lib.hid hP
  have HOP:Hid (x3.ownsRow (w.heap.size + 1) 5 1 v3 P.length (u8s P)):=Lib.hid (by
   have:=HO3.out
   rw [← hP] at this
   have e:P.length=(ordB row).length + 2:=by rw [hP];simp only [List.length_append,List.length_cons,List.length_nil]
   rw [e];exact this)
  have HPL:Hid (P.length≤1031):=Lib.hid (by have:=HLEN.out;rw [hP];simp only [List.length_append,List.length_cons,List.length_nil];omega)
  clear hP
  go_loopw [5,47] (fun b i wr=>∃ (k:Nat) (Q:List UInt8),k≤2∧i = .int .i64 k∧Hid (Q=P ++ (if k=0 then [] else if k=1 then numK T else numK T ++ numK S))∧Hid (wr.ownsRow (w.heap.size + 1) 5 1 b Q.length (u8s Q))∧Hid (Q.length≤P.length + 16)∧Hid (Bx w #[.slice A n c,.int .i64 (F:Int),.slice B m d,.int .i64 (T:Int),.int .i64 (S:Int),.int .i64 5,.slice D v q] wr)) (fun _ i _=>2 - (intOf i).toNat)
  case atStart=>exact ⟨0,P,by decide,rfl,Lib.hid (by simp),HOP,Lib.hid (by omega),HX3⟩
  case round =>
   clear HOP HX3
   obtain ⟨k,Q,hk,hi,HQQ,HO,HL,HX⟩:=hrel
   obtain ⟨u,hu⟩:∃ u,u=u5:=⟨_,rfl⟩
   rw [← hu] at HO ⊢
   clear hu
   have hk':k=0∨k=1∨k=2:=by omega
   clear hk
   rcases hk' with rfl | rfl | rfl
   case inr.inr =>
    replace hi:_=Value.int .i64 2:=hi
    subst hi
    have p5:=HX.out.cell (i:=5) (v := .int .i64 5) rfl
    go_wp2_with (at_builtin;go_must (refine wpList_append_reads _ rfl (.tmp 62) (.tmp 66) rfl Tryz.u8s' (w.heap.size + 1) u Q.length (u8s Q) rfl (HO.out.alloc _) (wr.heap.size + 1) (some ⟨wr.heap.size,0,none⟩) 1 1 (u8s [UInt8.ofNat 5]) rfl (by exact reads_lit wr _ [UInt8.ofNat 5] _ _ (by rfl)) (u8s_one _) (by have:=HL.out;have:=HPL.out;unfold maxLen;omega) (by have:=HL.out;have:=HPL.out;omega) (by have:=HX.out.size;simp;omega) ?_);intro v1 x1 hown hg hat;have HX1:=Lib.hid ((HX.out.alloc _).grow (HO.out.alloc _) hg);rw [← u8s_append] at hown;have HO1:=Lib.hid hown;clear hown hg hat)
    go_ret2
    have hf:Q ++ [UInt8.ofNat 5]=keyE ⟨row,F,qual,T,S,5,[]⟩:=by
     rw [HQQ.out,HP.out]
     unfold keyE tailK qualK
     simp
    rw [← hf]
    exact bytes_post2 (own_low HO1.out (Nat.le_succ _)) HX1.out.up
   case inl =>
    replace hi:_=Value.int .i64 0:=hi
    subst hi
    have ix:=fun w=>idx_two0 (T:Int) (S:Int) w
    go_wp2_with (first
     | (go_at_call 168;go_must (refine (falling_at T _ (by have:=HN.out;omega)).mono ?_);rintro e x1 ⟨A1,c1,rfl,hs1,hb1⟩;have HX1:=Lib.hid (HX.out.later hb1);have HO1:=Lib.hid (own_below HO.out hb1);have HR1:=Lib.hid hs1.rb;clear hs1 hb1)
     | (at_builtin;go_must (refine wpList_append_reads _ rfl (.tmp 58) (.tmp 59) rfl Tryz.u8s' (w.heap.size + 1) u Q.length (u8s Q) rfl HO1.out x1.heap.size A1 8 c1 (u8s (numK T)) rfl HR1.out (u8s_one _) (by have:=HL.out;have:=HPL.out;unfold maxLen;omega) (by have:=HL.out;have:=HPL.out;omega) (by have:=HX1.out.size;omega) ?_);intro v2 x2 hown hg hat;have HX2:=Lib.hid (HX1.out.grow HO1.out hg);rw [← u8s_append] at hown;have HO2:=Lib.hid hown;clear hown hg hat))
    have HO3:Hid (x2.ownsRow (w.heap.size + 1) 5 1 v2 (Q ++ numK T).length (u8s (Q ++ numK T))):=Lib.hid (by
     have:=HO2.out
     rw [show (Q ++ numK T).length=Q.length + 8 from by simp [numK_len]];exact this)
    clear HO2
    go_roundw
    case measure=>simp [intOf]
    case rel=>exact ⟨1,Q ++ numK T,by decide,rfl,Lib.hid (by rw [HQQ.out];simp),HO3,Lib.hid (by have:=HQQ.out;rw [this];simp [numK_len]),HX2⟩
   case inr.inl =>
    replace hi:_=Value.int .i64 1:=hi
    subst hi
    have ix:=fun w=>idx_two1 (T:Int) (S:Int) w
    go_wp2_with (first
     | (go_at_call 168;go_must (refine (falling_at S _ (by have:=HN.out;omega)).mono ?_);rintro e x1 ⟨A1,c1,rfl,hs1,hb1⟩;have HX1:=Lib.hid (HX.out.later hb1);have HO1:=Lib.hid (own_below HO.out hb1);have HR1:=Lib.hid hs1.rb;clear hs1 hb1)
     | (at_builtin;go_must (refine wpList_append_reads _ rfl (.tmp 58) (.tmp 59) rfl Tryz.u8s' (w.heap.size + 1) u Q.length (u8s Q) rfl HO1.out x1.heap.size A1 8 c1 (u8s (numK S)) rfl HR1.out (u8s_one _) (by have:=HL.out;have:=HPL.out;unfold maxLen;omega) (by have:=HL.out;have:=HPL.out;omega) (by have:=HX1.out.size;omega) ?_);intro v2 x2 hown hg hat;have HX2:=Lib.hid (HX1.out.grow HO1.out hg);rw [← u8s_append] at hown;have HO2:=Lib.hid hown;clear hown hg hat))
    have HO3:Hid (x2.ownsRow (w.heap.size + 1) 5 1 v2 (Q ++ numK S).length (u8s (Q ++ numK S))):=Lib.hid (by
     have:=HO2.out
     rw [show (Q ++ numK S).length=Q.length + 8 from by simp [numK_len]];exact this)
    clear HO2
    go_roundw
    case measure=>simp [intOf]
    case rel=>exact ⟨2,Q ++ numK S,by decide,rfl,Lib.hid (by rw [HQQ.out];simp),HO3,Lib.hid (by have:=HQQ.out;rw [this];simp [numK_len]),HX2⟩
set_option maxRecDepth 100000 in
set_option maxHeartbeats 2000000 in
theorem key_more (row qual:List UInt8) (A:Option Addr) (n c F:Nat) (B:Option Addr) (m d T S K:Nat) (D:Option Addr) (v q:Nat) (w:World) (hrow:Sl w A n c row) (hqual:Sl w B m d qual) (hz:checkN n F m T S (K:Int) v=0) (hk:K ≠ 5) :
  Calls Tryz.prog 111 #[.agg #[.slice A n c,.int .i64 (F:Int),.slice B m d,.int .i64 (T:Int),.int .i64 (S:Int),.int .i64 (K:Int),.slice D v q]] w (BytesPost2 5 (keyE ⟨row,F,qual,T,S,(K:Int),[]⟩) 0 w):=by
 obtain ⟨z1,z2,z3,z4,z5,z6,-⟩:=checkN_ok hz
 have HN:Hid (n≤256∧m≤256∧T≤1099511627776∧S≤17592186044431):=Lib.hid (by omega)
 have HR:Hid (∀ x,Below w.heap.size w x→Sl x A n c row):=Lib.hid fun x h=>hrow.later h
 have HQ:Hid (∀ x,Below w.heap.size w x→Sl x B m d qual):=Lib.hid fun x h=>hqual.later h
 have HLEN:Hid ((ordB row).length≤514∧(ordB qual).length≤514):=Lib.hid (by
  have h1:=ordB_len row;have h2:=ordB_len qual;have h3:=hrow.len;have h4:=hqual.len;omega)
 have HZ:=Lib.hid hz
 have HX0:=Lib.hid (Bx.new w #[.slice A n c,.int .i64 (F:Int),.slice B m d,.int .i64 (T:Int),.int .i64 (S:Int),.int .i64 (K:Int),.slice D v q] 60)
 have hk5:((K:Int) == 5)=false:=by rw [beq_eq_false_iff_ne];omega
 have hk5':((K:Int) != 5)=true:=by rw [bne_iff_ne];omega
 have HK:=Lib.hid hk
 obtain ⟨b4,hb4⟩:∃ b4,b4=((K:Int) == 4):=⟨_,rfl⟩
 have HB4:=Lib.hid hb4
 have hk4:((K:Int) == 4)=b4:=hb4.symm
 clear hk hb4
 clear hz z1 z2 z3 z4 z5 z6 hrow hqual
 have tok3:True:=trivial
 have tok4:True:=trivial
 go_enter Tryz.func111,Tryz.ntmps111
 go_wp2_with (go_at_call 161;go_must (refine (check_any _ _ _ _ _ _ _ _ _ _ _ _ _ _).mono ?_);rintro e x1 ⟨rfl,hb1⟩;rw [HZ.out];have HX1:=Lib.hid (HX0.out.later hb1);clear hb1 HX0)
 have c0:=HX1.out.cell (i:=0) (v := .slice A n c) rfl;have c1:=HX1.out.cell (i:=1) (v := .int .i64 (F:Int)) rfl;have c5:=HX1.out.cell (i:=5) (v := .int .i64 (K:Int)) rfl
 go_region_held3 (fun x=>x.cell? ⟨w.heap.size,0,none⟩=some (.slice A n c)∧x.cell? ⟨w.heap.size,1,none⟩=some (.int .i64 (F:Int))∧x.cell? ⟨w.heap.size,5,none⟩=some (.int .i64 (K:Int))∧Bx w #[.slice A n c,.int .i64 (F:Int),.slice B m d,.int .i64 (T:Int),.int .i64 (S:Int),.int .i64 (K:Int),.slice D v q] x) (first | assumption | exact ⟨c0,c1,c5,HX1.out.later (Below.refl _ _).drew⟩ | exact keepB3 ‹_∧_∧_∧Bx _ _ _› hb2 | exact keepA3 ‹_∧_∧_∧Bx _ _ _› | exact keepG3 ‹_∧_∧_∧Bx _ _ _› (own_below hO2 ((Below.refl _ _).alloc (Nat.le_refl _) _)) hg3) (first
  | (go_at_call 166;refine (ordered_any row A n c _ (by have:=HN.out;omega) (HR.out _ (‹_∧_∧_∧Bx _ _ _›).2.2.2.up).rb).mono ?_;rintro e x2 ⟨A2,c2,rfl,hO2,hb2⟩;have hO2:=own_low hO2 (‹_∧_∧_∧Bx _ _ _›).2.2.2.size)
  | (go_at_call 167;refine (flag_any _ _).mono ?_;rintro e w0 ⟨rfl,rfl⟩)
  | (refine step_append_cells _ (by rfl) _ _ (by rfl) Tryz.u8s' (w.heap.size + 1) (.slice A2 (ordB row).length c2) (ordB row).length (u8s (ordB row)) (by rfl) (own_below hO2 ((Below.refl _ _).alloc (Nat.le_refl _) _)) (x2.heap.size + 1) (some ⟨x2.heap.size,0,none⟩) 2 2 (u8s [UInt8.ofNat F,flg false]) (by rfl) (by exact reads_lit x2 _ [UInt8.ofNat F,flg false] _ _ (by show [Value.int .u8 (IntKind.u8.wrap (F:Int)),_]=[u8v _,u8v _];rw [u8v_mod,IntKind.wrap_u8];rfl)) (u8s_one _) (by have:=HLEN.out;unfold maxLen;omega) (by have:=HLEN.out;omega) (‹_∧_∧_∧Bx _ _ _›).2.2.2.size ?_;intro v3 x3 hown3 hg3 hat3 hold3 hcell3))
 all_goals
  obtain ⟨-,-,-,hx3⟩:=‹_∧_∧_∧Bx _ _ x3›
  have HX3:=Lib.hid hx3
  rw [← u8s_append] at hown3
  have HO3:=Lib.hid hown3
  clear hx3 hown3 hg3 hat3 hold3 hcell3 hO2 hb2 c0 c1 c5
  have q3_5:=HX3.out.cell (i:=5) (v := .int .i64 (K:Int)) rfl
  have q3_2:=HX3.out.cell (i:=2) (v := .slice B m d) rfl
  go_wp2_with (first
   | (go_at_call 167;go_must (refine (flag_any _ _).mono ?_);rintro e w0 ⟨rfl,rfl⟩)
   | (go_at_call 166;have _t:=tok3;go_must (refine (ordered_any qual B m d _ (by have:=HN.out;omega) (HQ.out _ HX3.out.up).rb).mono ?_);rintro e x4 ⟨A4,c4,rfl,hO4,hb4⟩;have HX4:=Lib.hid (HX3.out.later hb4);have HO4:=Lib.hid (own_below HO3.out hb4);have HR4:=Lib.hid (RB.own hO4);clear hO4 hb4 tok3)
   | (at_builtin;have _t:=tok4;go_must (refine wpList_append_reads _ rfl (.tmp 30) (.tmp 33) rfl Tryz.u8s' (w.heap.size + 1) v3 ((ordB row).length + 2) (u8s (ordB row ++ [UInt8.ofNat F,flg false])) rfl HO4.out x4.heap.size A4 (ordB qual).length c4 (u8s (ordB qual)) rfl HR4.out (u8s_one _) (by have:=HLEN.out;unfold maxLen;omega) (by have:=HLEN.out;omega) (by have:=HX4.out.size;omega) ?_);intro v5 x5 hown hg hat;clear tok4;have HX5:=Lib.hid (HX4.out.grow HO4.out hg);rw [← u8s_append] at hown;have HO5:=Lib.hid hown;clear hown hg hat;have q5_5:=HX5.out.cell (i:=5) (v := .int .i64 (K:Int)) rfl)
   | (at_builtin;go_must (refine wpList_append_reads _ rfl (.tmp 35) (.tmp 40) rfl Tryz.u8s' (w.heap.size + 1) v5 ((ordB row).length + 2 + (ordB qual).length) (u8s ((ordB row ++ [UInt8.ofNat F,flg false]) ++ ordB qual)) rfl (HO5.out.alloc _) (x5.heap.size + 1) (some ⟨x5.heap.size,0,none⟩) 1 1 (u8s ([flg b4])) rfl (by exact reads_lit x5 _ ([flg b4]) _ _ (by rfl)) (u8s_one _) (by have:=HLEN.out;unfold maxLen;omega) (by have:=HLEN.out;omega) (by have:=HX5.out.size;simp;omega) ?_);intro v6 x6 hown hg hat;have HX6:=Lib.hid ((HX5.out.alloc _).grow (HO5.out.alloc _) hg);rw [← u8s_append] at hown;have HO6:=Lib.hid hown;clear hown hg hat;have q6_5:=HX6.out.cell (i:=5) (v := .int .i64 (K:Int)) rfl;have q6_3:=HX6.out.cell (i:=3) (v := .int .i64 (T:Int)) rfl;have q6_4:=HX6.out.cell (i:=4) (v := .int .i64 (S:Int)) rfl))
  clear HX1
  generalize IntKind.u8.wrap (F:Int)=wf
  obtain ⟨P,hP⟩:∃ P,P=((ordB row ++ [UInt8.ofNat F,flg false]) ++ ordB qual) ++ [flg b4]:=⟨_,rfl⟩
  have HP:=Lib.hid hP
  have HOP:Hid (x6.ownsRow (w.heap.size + 1) 5 1 v6 P.length (u8s P)):=Lib.hid (by
   have:=HO6.out
   rw [← hP] at this
   have e:P.length=(ordB row).length + 2 + (ordB qual).length + 1:=by rw [hP];simp only [List.length_append,List.length_cons,List.length_nil]
   rw [e];exact this)
  have HPL:Hid (P.length≤1031):=Lib.hid (by have:=HLEN.out;rw [hP];simp only [List.length_append,List.length_cons,List.length_nil];omega)
  clear hP
  go_loopw [5,47] (fun b i wr=>∃ (k:Nat) (Q:List UInt8),k≤2∧i = .int .i64 k∧Hid (Q=P ++ (if k=0 then [] else if k=1 then numK T else numK T ++ numK S))∧Hid (wr.ownsRow (w.heap.size + 1) 5 1 b Q.length (u8s Q))∧Hid (Q.length≤P.length + 16)∧Hid (Bx w #[.slice A n c,.int .i64 (F:Int),.slice B m d,.int .i64 (T:Int),.int .i64 (S:Int),.int .i64 (K:Int),.slice D v q] wr)) (fun _ i _=>2 - (intOf i).toNat)
  case atStart=>exact ⟨0,P,by decide,rfl,Lib.hid (by simp),HOP,Lib.hid (by omega),HX6⟩
  case round =>
   clear HOP HX6
   obtain ⟨k,Q,hk,hi,HQQ,HO,HL,HX⟩:=hrel
   obtain ⟨u,hu⟩:∃ u,u=u5:=⟨_,rfl⟩
   rw [← hu] at HO ⊢
   clear hu
   have hk':k=0∨k=1∨k=2:=by omega
   clear hk
   rcases hk' with rfl | rfl | rfl
   case inr.inr =>
    replace hi:_=Value.int .i64 2:=hi
    subst hi
    have p5:=HX.out.cell (i:=5) (v := .int .i64 (K:Int)) rfl
    go_wp2_with (at_builtin;go_must (refine wpList_append_reads _ rfl (.tmp 62) (.tmp 66) rfl Tryz.u8s' (w.heap.size + 1) u Q.length (u8s Q) rfl (HO.out.alloc _) (wr.heap.size + 1) (some ⟨wr.heap.size,0,none⟩) 1 1 (u8s [UInt8.ofNat K]) rfl (by exact reads_lit wr _ [UInt8.ofNat K] _ _ (by show [_]=[u8v _];rw [u8v_mod])) (u8s_one _) (by have:=HL.out;have:=HPL.out;unfold maxLen;omega) (by have:=HL.out;have:=HPL.out;omega) (by have:=HX.out.size;simp;omega) ?_);intro v1 x1 hown hg hat;have HX1:=Lib.hid ((HX.out.alloc _).grow (HO.out.alloc _) hg);rw [← u8s_append] at hown;have HO1:=Lib.hid hown;clear hown hg hat)
    go_ret2
    have hf:Q ++ [UInt8.ofNat K]=keyE ⟨row,F,qual,T,S,(K:Int),[]⟩:=by
     rw [HQQ.out,HP.out]
     unfold keyE tailK qualK
     have hkk:¬ ((K:Int)=5):=by have:=HK.out;omega
     have h5:((K:Int) == 5)=false:=hk5
     have hB:=HB4.out
     clear hk4
     subst hB
     rw [if_neg hkk]
     simp only [h5]
     simp
    rw [← hf]
    exact bytes_post2 (own_low HO1.out (Nat.le_succ _)) HX1.out.up
   case inl =>
    replace hi:_=Value.int .i64 0:=hi
    subst hi
    have ix:=fun w=>idx_two0 (T:Int) (S:Int) w
    go_wp2_with (first
     | (go_at_call 168;go_must (refine (falling_at T _ (by have:=HN.out;omega)).mono ?_);rintro e x1 ⟨A1,c1,rfl,hs1,hb1⟩;have HX1:=Lib.hid (HX.out.later hb1);have HO1:=Lib.hid (own_below HO.out hb1);have HR1:=Lib.hid hs1.rb;clear hs1 hb1)
     | (at_builtin;go_must (refine wpList_append_reads _ rfl (.tmp 58) (.tmp 59) rfl Tryz.u8s' (w.heap.size + 1) u Q.length (u8s Q) rfl HO1.out x1.heap.size A1 8 c1 (u8s (numK T)) rfl HR1.out (u8s_one _) (by have:=HL.out;have:=HPL.out;unfold maxLen;omega) (by have:=HL.out;have:=HPL.out;omega) (by have:=HX1.out.size;omega) ?_);intro v2 x2 hown hg hat;have HX2:=Lib.hid (HX1.out.grow HO1.out hg);rw [← u8s_append] at hown;have HO2:=Lib.hid hown;clear hown hg hat))
    have HO3:Hid (x2.ownsRow (w.heap.size + 1) 5 1 v2 (Q ++ numK T).length (u8s (Q ++ numK T))):=Lib.hid (by
     have:=HO2.out
     rw [show (Q ++ numK T).length=Q.length + 8 from by simp [numK_len]];exact this)
    clear HO2
    go_roundw
    case measure=>simp [intOf]
    case rel=>exact ⟨1,Q ++ numK T,by decide,rfl,Lib.hid (by rw [HQQ.out];simp),HO3,Lib.hid (by have:=HQQ.out;rw [this];simp [numK_len]),HX2⟩
   case inr.inl =>
    replace hi:_=Value.int .i64 1:=hi
    subst hi
    have ix:=fun w=>idx_two1 (T:Int) (S:Int) w
    go_wp2_with (first
     | (go_at_call 168;go_must (refine (falling_at S _ (by have:=HN.out;omega)).mono ?_);rintro e x1 ⟨A1,c1,rfl,hs1,hb1⟩;have HX1:=Lib.hid (HX.out.later hb1);have HO1:=Lib.hid (own_below HO.out hb1);have HR1:=Lib.hid hs1.rb;clear hs1 hb1)
     | (at_builtin;go_must (refine wpList_append_reads _ rfl (.tmp 58) (.tmp 59) rfl Tryz.u8s' (w.heap.size + 1) u Q.length (u8s Q) rfl HO1.out x1.heap.size A1 8 c1 (u8s (numK S)) rfl HR1.out (u8s_one _) (by have:=HL.out;have:=HPL.out;unfold maxLen;omega) (by have:=HL.out;have:=HPL.out;omega) (by have:=HX1.out.size;omega) ?_);intro v2 x2 hown hg hat;have HX2:=Lib.hid (HX1.out.grow HO1.out hg);rw [← u8s_append] at hown;have HO2:=Lib.hid hown;clear hown hg hat))
    have HO3:Hid (x2.ownsRow (w.heap.size + 1) 5 1 v2 (Q ++ numK S).length (u8s (Q ++ numK S))):=Lib.hid (by
     have:=HO2.out
     rw [show (Q ++ numK S).length=Q.length + 8 from by simp [numK_len]];exact this)
    clear HO2
    go_roundw
    case measure=>simp [intOf]
    case rel=>exact ⟨2,Q ++ numK S,by decide,rfl,Lib.hid (by rw [HQQ.out];simp),HO3,Lib.hid (by have:=HQQ.out;rw [this];simp [numK_len]),HX2⟩
set_option maxRecDepth 100000 in
set_option maxHeartbeats 1000000 in
theorem key_err (f t s k:Int) (A:Option Addr) (n c:Nat) (B:Option Addr) (m d:Nat) (D:Option Addr) (v q:Nat) (w:World) (hz:checkN n f m t s k v ≠ 0) :
  Calls Tryz.prog 111 #[.agg #[.slice A n c,.int .i64 f,.slice B m d,.int .i64 t,.int .i64 s,.int .i64 k,.slice D v q]] w (BytesPost2 5 [] (checkN n f m t s k v) w):=by
 obtain ⟨z,hzz⟩:∃ z,z=checkN n f m t s k v:=⟨_,rfl⟩
 rw [← hzz] at hz ⊢
 have HZ:=Lib.hid hzz
 have hd:(z != 0)=true:=by rw [bne_iff_ne];exact hz
 have HB:=Lib.hid (fun o=>(Below.refl w.heap.size w).alloc (Nat.le_refl _) o)
 clear hz hzz
 go_enter Tryz.func111,Tryz.ntmps111
 go_wp2_with (go_at_call 161;go_must (refine (check_any _ _ _ _ _ _ _ _ _ _ _ _ _ _).mono ?_);rintro e x1 ⟨rfl,hb1⟩;rw [← HZ.out];have HB1:=Lib.hid (below_up (HB.out _) hb1);clear hb1 HB)
 go_ret2
 exact bytes_none2 HB1.out
theorem key_any (e:Ent) (A:Option Addr) (n c:Nat) (B:Option Addr) (m d:Nat) (D:Option Addr) (v q:Nat) (w:World) (h:En w A n c B m d D v q e) :
  Calls Tryz.prog 111 #[entV A n c B m d D v q e] w (BytesPost2 5 (KeyE e).1 (KeyE e).2 w):=by
 obtain ⟨row,f,qual,t,s,k,val⟩:=e
 have hl1:row.length=n:=h.row.len
 have hl2:qual.length=m:=h.qual.len
 have hl3:val.length=v:=h.val.len
 have hc:checkE ⟨row,f,qual,t,s,k,val⟩=checkN n f m t s k v:=by unfold checkE;simp only [hl1,hl2,hl3]
 unfold KeyE
 rw [hc]
 by_cases hz:checkN n f m t s k v=0
 ·rw [if_pos hz]
  obtain ⟨z1,z2,z3,z4,z5,z6,-⟩:=checkN_ok hz
  obtain ⟨F,rfl⟩:∃ F:Nat,f=F:=⟨f.toNat,by omega⟩
  obtain ⟨T,rfl⟩:∃ T:Nat,t=T:=⟨t.toNat,by omega⟩
  obtain ⟨S,rfl⟩:∃ S:Nat,s=S:=⟨s.toNat,by omega⟩
  obtain ⟨K,rfl⟩:∃ K:Nat,k=K:=⟨k.toNat,by omega⟩
  by_cases hk:K=5
  ·subst hk
   exact key_five row qual A n c F B m d T S D v q w h.row h.qual hz
  ·exact key_more row qual A n c F B m d T S K D v q w h.row h.qual hz hk
 ·rw [if_neg hz]
  exact key_err f t s k A n c B m d D v q w hz
end Go.Proofs.YtfdbcfaeiglbeaaGreatDoor
