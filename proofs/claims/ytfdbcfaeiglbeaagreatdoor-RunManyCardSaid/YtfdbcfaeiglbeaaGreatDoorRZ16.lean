/-
 CellW5, CellW6, WireW7, WireW9, CellW8, WireR2, FullK2, WireR5, BlockW1, BlockW2, BlockW3, BlockB1, BlockB2, BlockC1, BlockE, WireLaw, BlockLaw.
-/
import Derived.Test.YtfdbcfaeiglbeaaGreatDoorRZ6
import Derived.Test.YtfdbcfaeiglbeaaGreatDoorRZ7
import Derived.Test.YtfdbcfaeiglbeaaGreatDoorRZ12
import Derived.Deep.DeepHandedRow
import Derived.Lib.AppendZerosOnto
import Derived.Lib.LaidTab
import Derived.Lib.SliceRun
import Derived.Lib.Walk
import Derived.OpenShut
import Derived.StillTailTactics
import Derived.Test.YtfdbcfaeiglbeaaGreatDoorCards
import Derived.Test.YtfdbcfaeiglbeaaGreatDoorTie
namespace Go.Proofs.YtfdbcfaeiglbeaaGreatDoor
open Go.RowKit
def ParsePost (o:Option (Ent×Nat)) (w:World) (r:Ending) (w':World):Prop:=match o with
 | none=>NoPost w r w'
 | some (e,_)=>EntPost (fun v => .tuple #[v,.bool true]) e w r w'
theorem parse_any (b:List UInt8) (A:Option Addr) (n c:Nat) (w:World) (hs:Sl w A n c b) (hn:n≤140737488355000) :
  Calls Tryz.prog 155 #[.slice A n c] w (ParsePost (parseE b) w):=by
 have hl:=hs.len
 refine parse_cases b (C:=fun o=>Calls Tryz.prog 155 #[.slice A n c] w (ParsePost o w)) ?_ ?_ ?_ ?_ ?_ ?_
 ·intro rw0 p1 er h0 he;exact pa_N_f1a b A n c w rw0 p1 er hs hn h0 he
 ·intro row p1 h0 h1 h2;exact pa_N_f1b b A n c w row p1 hs hn h0 (by omega) (by omega)
 ·intro row p1 f g ql0 p2 er h0 h1 hf hg hg0 h2 he;exact pa_P_f2a b A n c w row p1 f g ql0 p2 er hs hn h0 (by omega) hf hg hg0 h2 he
 ·intro row p1 f g qual p2 h0 h1 hf hg hg0 h2 h3 h4;exact pa_P_f2b b A n c w row p1 f g qual p2 hs hn h0 (by omega) hf hg hg0 h2 (by omega)
 ·intro row p1 f g qual p2 h0 h1 hf hg hg0 h2 h3
  refine parseN_cases b row f.toNat qual (p2 + 1) (C:=fun o=>Calls Tryz.prog 155 #[.slice A n c] w (ParsePost o w)) ?_ ?_ ?_ ?_
  ·intro t p3 er h3' he;exact pa_P_f3 b A n c w row p1 f g qual p2 t p3 er hs hn h0 (by omega) hf hg hg0 h2 (by omega) h3' he
  ·intro t p3 s p4 er h3' h4 he;exact pa_P_f4a b A n c w row p1 f g qual p2 t p3 s p4 er hs hn h0 (by omega) hf hg hg0 h2 (by omega) h3' h4 he
  ·intro t p3 s p4 h3' h4 h5 h6;exact pa_P_f4b b A n c w row p1 f g qual p2 t p3 s p4 hs hn h0 (by omega) hf hg hg0 h2 (by omega) h3' h4 (by omega)
  ·intro t p3 s p4 k h3' h4 h5 hk;exact pa_P_ok b A n c w row p1 f g qual p2 t p3 s p4 k hs hn h0 (by omega) hf hg hg0 h2 (by omega) h3' h4 (by omega) hk
 ·intro row p1 f g h0 h1 hf hg hg0
  refine parseN_cases b row f.toNat [] (p1 + 2) (C:=fun o=>Calls Tryz.prog 155 #[.slice A n c] w (ParsePost o w)) ?_ ?_ ?_ ?_
  ·intro t p3 er h3' he;exact pa_N_f3 b A n c w row p1 f g t p3 er hs hn h0 (by omega) hf hg hg0 h3' he
  ·intro t p3 s p4 er h3' h4 he;exact pa_N_f4a b A n c w row p1 f g t p3 s p4 er hs hn h0 (by omega) hf hg hg0 h3' h4 he
  ·intro t p3 s p4 h3' h4 h5 h6;exact pa_N_f4b b A n c w row p1 f g t p3 s p4 hs hn h0 (by omega) hf hg hg0 h3' h4 (by omega)
  ·intro t p3 s p4 k h3' h4 h5 hk;exact pa_N_ok b A n c w row p1 f g t p3 s p4 k hs hn h0 (by omega) hf hg hg0 h3' h4 (by omega) hk
set_option maxRecDepth 100000 in
set_option maxHeartbeats 2000000 in
theorem pk_none (b:List UInt8) (A:Option Addr) (n c:Nat) (w:World) (hs:Sl w A n c b) (hn:n≤140737488355000) (hp:parseE b=none) :
  Calls Tryz.prog 92 #[.slice A n c] w (EntPost (fun v => .tuple #[v,.int .i64 27]) noEnt w):=by
 have HS:Hid (∀ x,Below w.heap.size w x→Sl x A n c b):=Lib.hid fun x h=>hs.later h
 have HX0:=Lib.hid (Bt.of (T:=5) (Bxs.one w 60 #[.slice none 0 0,.int .i64 0,.slice none 0 0,.int .i64 0,.int .i64 0,.int .i64 0,.slice none 0 0]))
 have HP:=Lib.hid hp
 clear hs hp
 go_enter Tryz.func92,Tryz.ntmps92
 go_upto_region 3 with (go_at_call 155;go_must (refine (parse_any b A n c _ (HS.out _ HX0.out.box.up) hn).mono ?_);rw [HP.out];rintro e x1 ⟨⟨A1,n1,c1,f,A2,n2,c2,t,s,k,rfl⟩,hb1⟩;have HX1:=Lib.hid (HX0.out.later hb1);clear hb1;have z0:=HX1.out.box.c0 (i:=0) (v := .slice none 0 0) rfl rfl;have z1:=HX1.out.box.c0 (i:=1) (v := .int .i64 0) rfl rfl;have z2:=HX1.out.box.c0 (i:=2) (v := .slice none 0 0) rfl rfl;have z3:=HX1.out.box.c0 (i:=3) (v := .int .i64 0) rfl rfl;have z4:=HX1.out.box.c0 (i:=4) (v := .int .i64 0) rfl rfl;have z5:=HX1.out.box.c0 (i:=5) (v := .int .i64 0) rfl rfl;have z6:=HX1.out.box.c0 (i:=6) (v := .slice none 0 0) rfl rfl;have fz:=HX1.out.box.f0 rfl;have hlt:w.heap.size < x1.heap.size:=HX1.out.box.size)
 have HX2:=Lib.hid (HX1.out.alloc (.cells #[.slice A1 n1 c1,.int .i64 f,.slice A2 n2 c2,.int .i64 t,.int .i64 s,.int .i64 k,.slice none 0 0] 60))
 clear HX1 z0 z1 z2 z3 z4 z5 z6 fz hlt
 generalize x1.alloc (.cells #[.slice A1 n1 c1,.int .i64 f,.slice A2 n2 c2,.int .i64 t,.int .i64 s,.int .i64 k,.slice none 0 0] 60)=x2 at HX2 ⊢
 have z0:=HX2.out.box.c0 (i:=0) (v := .slice none 0 0) rfl rfl;have z1:=HX2.out.box.c0 (i:=1) (v := .int .i64 0) rfl rfl;have z2:=HX2.out.box.c0 (i:=2) (v := .slice none 0 0) rfl rfl;have z3:=HX2.out.box.c0 (i:=3) (v := .int .i64 0) rfl rfl;have z4:=HX2.out.box.c0 (i:=4) (v := .int .i64 0) rfl rfl;have z5:=HX2.out.box.c0 (i:=5) (v := .int .i64 0) rfl rfl;have z6:=HX2.out.box.c0 (i:=6) (v := .slice none 0 0) rfl rfl;have fz:=HX2.out.box.f0 rfl;have hlt:w.heap.size < x2.heap.size:=HX2.out.box.size
 go_wp2_with fail
 (try simp only [Exit.inBlock,Exit.then])
 have HR:=Lib.hid (HX2.out.fill7 rfl (.slice none 0 0) (.int .i64 0) (.slice none 0 0) (.int .i64 0) (.int .i64 0) (.int .i64 0) (.slice none 0 0))
 refine bodyPost_ret (results_box1 rfl _ _ w.heap.size _ rfl (HR.out.box.cells0 rfl) (by kernel_rfl) (by kernel_rfl)) rfl ?_
 exact ent_none (mk:=fun v => .tuple #[v,.int .i64 27]) HR.out.box.up
set_option maxRecDepth 100000 in
set_option maxHeartbeats 2000000 in
theorem pk_A (b:List UInt8) (A:Option Addr) (n c:Nat) (w:World) (hs:Sl w A n c b) (hn:n≤140737488355000) (E:Ent) (p:Nat) (hp:parseE b=some (E,p)) (K:List UInt8) (z:Int) (hz:z ≠ 0) (hk:KeyE E=(K,z)) :
  Calls Tryz.prog 92 #[.slice A n c] w (EntPost (fun v => .tuple #[v,.int .i64 27]) noEnt w):=by
 have HS:Hid (∀ x,Below w.heap.size w x→Sl x A n c b):=Lib.hid fun x h=>hs.later h
 have HX0:=Lib.hid (Bt.of (T:=5) (Bxs.one w 60 #[.slice none 0 0,.int .i64 0,.slice none 0 0,.int .i64 0,.int .i64 0,.int .i64 0,.slice none 0 0]))
 have HP:=Lib.hid hp
 have HK:=Lib.hid hk
 have hd:(z != 0)=true:=by rw [bne_iff_ne];exact hz
 clear hs hp hk hz
 go_enter Tryz.func92,Tryz.ntmps92
 go_wp2_with (first
  | (go_at_call 155;go_must (refine (parse_any b A n c _ (HS.out _ HX0.out.box.up) hn).mono ?_);rw [HP.out];rintro e x1 ⟨A1,c1,A2,c2,D,q,rfl,hr1,hb1⟩;have HX1:=Lib.hid (HX0.out.freshR hb1 hr1);clear hb1 hr1)
  | (go_at_call 111;go_must (refine (key_any E A1 _ c1 A2 _ c2 D _ q _ ⟨(HX1.out.alloc (.cells #[.slice A1 E.row.length c1,.int .i64 E.fam,.slice A2 E.qual.length c2,.int .i64 E.ts,.int .i64 E.seq,.int .i64 E.kind,.slice D E.val.length q] 60)).rows.sl (i:=0) rfl,(HX1.out.alloc (.cells #[.slice A1 E.row.length c1,.int .i64 E.fam,.slice A2 E.qual.length c2,.int .i64 E.ts,.int .i64 E.seq,.int .i64 E.kind,.slice D E.val.length q] 60)).rows.sl (i:=1) rfl,(HX1.out.alloc (.cells #[.slice A1 E.row.length c1,.int .i64 E.fam,.slice A2 E.qual.length c2,.int .i64 E.ts,.int .i64 E.seq,.int .i64 E.kind,.slice D E.val.length q] 60)).rows.sl (i:=2) rfl⟩).mono ?_);rw [HK.out];rintro e x2 hp;obtain ⟨A5,c5,rfl,hS5,hO5,hb5⟩:=hp.at_ (n:=K.length) rfl rfl;have HX2:=Lib.hid ((HX1.out.alloc (.cells #[.slice A1 E.row.length c1,.int .i64 E.fam,.slice A2 E.qual.length c2,.int .i64 E.ts,.int .i64 E.seq,.int .i64 E.kind,.slice D E.val.length q] 60)).fresh hb5 hO5);have HY2:=Lib.hid ((Bx.new x1 #[.slice A1 E.row.length c1,.int .i64 E.fam,.slice A2 E.qual.length c2,.int .i64 E.ts,.int .i64 E.seq,.int .i64 E.kind,.slice D E.val.length q] 60).later hb5);have HS5:=Lib.hid hS5;clear hb5 hp hO5 hS5;have z0:=HX2.out.box.c0 (i:=0) (v := .slice none 0 0) rfl rfl;have z1:=HX2.out.box.c0 (i:=1) (v := .int .i64 0) rfl rfl;have z2:=HX2.out.box.c0 (i:=2) (v := .slice none 0 0) rfl rfl;have z3:=HX2.out.box.c0 (i:=3) (v := .int .i64 0) rfl rfl;have z4:=HX2.out.box.c0 (i:=4) (v := .int .i64 0) rfl rfl;have z5:=HX2.out.box.c0 (i:=5) (v := .int .i64 0) rfl rfl;have z6:=HX2.out.box.c0 (i:=6) (v := .slice none 0 0) rfl rfl;have fz:=HX2.out.box.f0 rfl;have hlt:w.heap.size < x2.heap.size:=HX2.out.box.size;have y0:=HY2.out.cell (i:=0) (v := .slice A1 E.row.length c1) rfl;have y1:=HY2.out.cell (i:=1) (v := .int .i64 E.fam) rfl;have y2:=HY2.out.cell (i:=2) (v := .slice A2 E.qual.length c2) rfl;have y3:=HY2.out.cell (i:=3) (v := .int .i64 E.ts) rfl;have y4:=HY2.out.cell (i:=4) (v := .int .i64 E.seq) rfl;have y5:=HY2.out.cell (i:=5) (v := .int .i64 E.kind) rfl;have y6:=HY2.out.cell (i:=6) (v := .slice D E.val.length q) rfl))
 (try simp only [Exit.inBlock,Exit.then])
 have HR:=Lib.hid (HX2.out.fill7 rfl (.slice none 0 0) (.int .i64 0) (.slice none 0 0) (.int .i64 0) (.int .i64 0) (.int .i64 0) (.slice none 0 0))
 refine bodyPost_ret (results_box1 rfl _ _ w.heap.size _ rfl (HR.out.box.cells0 rfl) (by kernel_rfl) (by kernel_rfl)) rfl ?_
 exact ent_none (mk:=fun v => .tuple #[v,.int .i64 27]) HR.out.box.up
set_option maxRecDepth 100000 in
set_option maxHeartbeats 2000000 in
theorem pk_B (b:List UInt8) (A:Option Addr) (n c:Nat) (w:World) (hs:Sl w A n c b) (hn:n≤140737488355000) (E:Ent) (p:Nat) (hp:parseE b=some (E,p)) (K:List UInt8) (hk:KeyE E=(K,0)) (hkb:(K == b)=false) :
  Calls Tryz.prog 92 #[.slice A n c] w (EntPost (fun v => .tuple #[v,.int .i64 27]) noEnt w):=by
 have HS:Hid (∀ x,Below w.heap.size w x→Sl x A n c b):=Lib.hid fun x h=>hs.later h
 have HX0:=Lib.hid (Bt.of (T:=5) (Bxs.one w 60 #[.slice none 0 0,.int .i64 0,.slice none 0 0,.int .i64 0,.int .i64 0,.int .i64 0,.slice none 0 0]))
 have HP:=Lib.hid hp
 have HK:=Lib.hid hk
 have HKB:=Lib.hid hkb
 clear hs hp hk hkb
 go_enter Tryz.func92,Tryz.ntmps92
 go_wp2_with (first
  | (go_at_call 155;go_must (refine (parse_any b A n c _ (HS.out _ HX0.out.box.up) hn).mono ?_);rw [HP.out];rintro e x1 ⟨A1,c1,A2,c2,D,q,rfl,hr1,hb1⟩;have HX1:=Lib.hid (HX0.out.freshR hb1 hr1);clear hb1 hr1)
  | (go_at_call 111;go_must (refine (key_any E A1 _ c1 A2 _ c2 D _ q _ ⟨(HX1.out.alloc (.cells #[.slice A1 E.row.length c1,.int .i64 E.fam,.slice A2 E.qual.length c2,.int .i64 E.ts,.int .i64 E.seq,.int .i64 E.kind,.slice D E.val.length q] 60)).rows.sl (i:=0) rfl,(HX1.out.alloc (.cells #[.slice A1 E.row.length c1,.int .i64 E.fam,.slice A2 E.qual.length c2,.int .i64 E.ts,.int .i64 E.seq,.int .i64 E.kind,.slice D E.val.length q] 60)).rows.sl (i:=1) rfl,(HX1.out.alloc (.cells #[.slice A1 E.row.length c1,.int .i64 E.fam,.slice A2 E.qual.length c2,.int .i64 E.ts,.int .i64 E.seq,.int .i64 E.kind,.slice D E.val.length q] 60)).rows.sl (i:=2) rfl⟩).mono ?_);rw [HK.out];rintro e x2 hp;obtain ⟨A5,c5,rfl,hS5,hO5,hb5⟩:=hp.at_ (n:=K.length) rfl rfl;have HX2:=Lib.hid ((HX1.out.alloc (.cells #[.slice A1 E.row.length c1,.int .i64 E.fam,.slice A2 E.qual.length c2,.int .i64 E.ts,.int .i64 E.seq,.int .i64 E.kind,.slice D E.val.length q] 60)).fresh hb5 hO5);have HY2:=Lib.hid ((Bx.new x1 #[.slice A1 E.row.length c1,.int .i64 E.fam,.slice A2 E.qual.length c2,.int .i64 E.ts,.int .i64 E.seq,.int .i64 E.kind,.slice D E.val.length q] 60).later hb5);have HS5:=Lib.hid hS5;clear hb5 hp hO5 hS5;have z0:=HX2.out.box.c0 (i:=0) (v := .slice none 0 0) rfl rfl;have z1:=HX2.out.box.c0 (i:=1) (v := .int .i64 0) rfl rfl;have z2:=HX2.out.box.c0 (i:=2) (v := .slice none 0 0) rfl rfl;have z3:=HX2.out.box.c0 (i:=3) (v := .int .i64 0) rfl rfl;have z4:=HX2.out.box.c0 (i:=4) (v := .int .i64 0) rfl rfl;have z5:=HX2.out.box.c0 (i:=5) (v := .int .i64 0) rfl rfl;have z6:=HX2.out.box.c0 (i:=6) (v := .slice none 0 0) rfl rfl;have fz:=HX2.out.box.f0 rfl;have hlt:w.heap.size < x2.heap.size:=HX2.out.box.size;have y0:=HY2.out.cell (i:=0) (v := .slice A1 E.row.length c1) rfl;have y1:=HY2.out.cell (i:=1) (v := .int .i64 E.fam) rfl;have y2:=HY2.out.cell (i:=2) (v := .slice A2 E.qual.length c2) rfl;have y3:=HY2.out.cell (i:=3) (v := .int .i64 E.ts) rfl;have y4:=HY2.out.cell (i:=4) (v := .int .i64 E.seq) rfl;have y5:=HY2.out.cell (i:=5) (v := .int .i64 E.kind) rfl;have y6:=HY2.out.cell (i:=6) (v := .slice D E.val.length q) rfl)
  | (go_at_call 87;go_must (refine (equal_any K b A5 A K.length c5 n c _ HS5.out.rb (HS.out _ HX2.out.box.up).rb).mono ?_);rw [HKB.out];rintro e x3 ⟨rfl,rfl⟩))
 (try simp only [Exit.inBlock,Exit.then])
 have HR:=Lib.hid (HX2.out.fill7 rfl (.slice none 0 0) (.int .i64 0) (.slice none 0 0) (.int .i64 0) (.int .i64 0) (.int .i64 0) (.slice none 0 0))
 refine bodyPost_ret (results_box1 rfl _ _ w.heap.size _ rfl (HR.out.box.cells0 rfl) (by kernel_rfl) (by kernel_rfl)) rfl ?_
 exact ent_none (mk:=fun v => .tuple #[v,.int .i64 27]) HR.out.box.up
set_option maxRecDepth 100000 in
set_option maxHeartbeats 2000000 in
theorem pk_C (b:List UInt8) (A:Option Addr) (n c:Nat) (w:World) (hs:Sl w A n c b) (hn:n≤140737488355000) (E:Ent) (p:Nat) (hp:parseE b=some (E,p)) (K:List UInt8) (hk:KeyE E=(K,0)) (hkb:(K == b)=true) :
  Calls Tryz.prog 92 #[.slice A n c] w (EntPost (fun v => .tuple #[v,.int .i64 0]) E w):=by
 have HS:Hid (∀ x,Below w.heap.size w x→Sl x A n c b):=Lib.hid fun x h=>hs.later h
 have HX0:=Lib.hid (Bt.of (T:=5) (Bxs.one w 60 #[.slice none 0 0,.int .i64 0,.slice none 0 0,.int .i64 0,.int .i64 0,.int .i64 0,.slice none 0 0]))
 have HP:=Lib.hid hp
 have HK:=Lib.hid hk
 have HKB:=Lib.hid hkb
 clear hs hp hk hkb
 go_enter Tryz.func92,Tryz.ntmps92
 go_wp2_with (first
  | (go_at_call 155;go_must (refine (parse_any b A n c _ (HS.out _ HX0.out.box.up) hn).mono ?_);rw [HP.out];rintro e x1 ⟨A1,c1,A2,c2,D,q,rfl,hr1,hb1⟩;have HX1:=Lib.hid (HX0.out.freshR hb1 hr1);clear hb1 hr1)
  | (go_at_call 111;go_must (refine (key_any E A1 _ c1 A2 _ c2 D _ q _ ⟨(HX1.out.alloc (.cells #[.slice A1 E.row.length c1,.int .i64 E.fam,.slice A2 E.qual.length c2,.int .i64 E.ts,.int .i64 E.seq,.int .i64 E.kind,.slice D E.val.length q] 60)).rows.sl (i:=0) rfl,(HX1.out.alloc (.cells #[.slice A1 E.row.length c1,.int .i64 E.fam,.slice A2 E.qual.length c2,.int .i64 E.ts,.int .i64 E.seq,.int .i64 E.kind,.slice D E.val.length q] 60)).rows.sl (i:=1) rfl,(HX1.out.alloc (.cells #[.slice A1 E.row.length c1,.int .i64 E.fam,.slice A2 E.qual.length c2,.int .i64 E.ts,.int .i64 E.seq,.int .i64 E.kind,.slice D E.val.length q] 60)).rows.sl (i:=2) rfl⟩).mono ?_);rw [HK.out];rintro e x2 hp;obtain ⟨A5,c5,rfl,hS5,hO5,hb5⟩:=hp.at_ (n:=K.length) rfl rfl;have HX2:=Lib.hid ((HX1.out.alloc (.cells #[.slice A1 E.row.length c1,.int .i64 E.fam,.slice A2 E.qual.length c2,.int .i64 E.ts,.int .i64 E.seq,.int .i64 E.kind,.slice D E.val.length q] 60)).fresh hb5 hO5);have HY2:=Lib.hid ((Bx.new x1 #[.slice A1 E.row.length c1,.int .i64 E.fam,.slice A2 E.qual.length c2,.int .i64 E.ts,.int .i64 E.seq,.int .i64 E.kind,.slice D E.val.length q] 60).later hb5);have HS5:=Lib.hid hS5;clear hb5 hp hO5 hS5;have z0:=HX2.out.box.c0 (i:=0) (v := .slice none 0 0) rfl rfl;have z1:=HX2.out.box.c0 (i:=1) (v := .int .i64 0) rfl rfl;have z2:=HX2.out.box.c0 (i:=2) (v := .slice none 0 0) rfl rfl;have z3:=HX2.out.box.c0 (i:=3) (v := .int .i64 0) rfl rfl;have z4:=HX2.out.box.c0 (i:=4) (v := .int .i64 0) rfl rfl;have z5:=HX2.out.box.c0 (i:=5) (v := .int .i64 0) rfl rfl;have z6:=HX2.out.box.c0 (i:=6) (v := .slice none 0 0) rfl rfl;have fz:=HX2.out.box.f0 rfl;have hlt:w.heap.size < x2.heap.size:=HX2.out.box.size;have y0:=HY2.out.cell (i:=0) (v := .slice A1 E.row.length c1) rfl;have y1:=HY2.out.cell (i:=1) (v := .int .i64 E.fam) rfl;have y2:=HY2.out.cell (i:=2) (v := .slice A2 E.qual.length c2) rfl;have y3:=HY2.out.cell (i:=3) (v := .int .i64 E.ts) rfl;have y4:=HY2.out.cell (i:=4) (v := .int .i64 E.seq) rfl;have y5:=HY2.out.cell (i:=5) (v := .int .i64 E.kind) rfl;have y6:=HY2.out.cell (i:=6) (v := .slice D E.val.length q) rfl)
  | (go_at_call 87;go_must (refine (equal_any K b A5 A K.length c5 n c _ HS5.out.rb (HS.out _ HX2.out.box.up).rb).mono ?_);rw [HKB.out];rintro e x3 ⟨rfl,rfl⟩))
 (try simp only [Exit.inBlock,Exit.then])
 have HR:=Lib.hid (HX2.out.fill7 rfl (.slice A1 E.row.length c1) (.int .i64 E.fam) (.slice A2 E.qual.length c2) (.int .i64 E.ts) (.int .i64 E.seq) (.int .i64 E.kind) (.slice D E.val.length q))
 refine bodyPost_ret (results_box1 rfl _ _ w.heap.size _ rfl (HR.out.box.cells0 rfl) (by kernel_rfl) (by kernel_rfl)) rfl ?_
 exact ⟨A1,c1,A2,c2,D,q,rfl,rows_low (rows_pre HR.out.rows) (Nat.le_add_right _ _),HR.out.box.up⟩
theorem parsekey_any (b:List UInt8) (A:Option Addr) (n c:Nat) (w:World) (hs:Sl w A n c b) (hn:n≤140737488355000) :
  Calls Tryz.prog 92 #[.slice A n c] w (EntPost (fun v => .tuple #[v,.int .i64 (ParseKeyE b).2]) (ParseKeyE b).1 w):=by
 unfold ParseKeyE
 cases hp:parseE b with
 | none=>exact pk_none b A n c w hs hn hp
 | some x =>
  obtain ⟨E,p⟩:=x
  simp only [ParseKeyO]
  by_cases hc:checkE E=0
  ·have hk:KeyE E=(keyE E,0):=by unfold KeyE;rw [if_pos hc]
   by_cases hb:keyE E=b
   ·rw [if_pos ⟨hc,hb⟩]
    exact pk_C b A n c w hs hn E p hp _ hk (by rw [hb];simp)
   ·rw [if_neg (fun h=>hb h.2)]
    exact pk_B b A n c w hs hn E p hp _ hk (by simpa using hb)
  ·have hk:KeyE E=([],checkE E):=by unfold KeyE;rw [if_neg hc]
   rw [if_neg (fun h=>hc h.1)]
   exact pk_A b A n c w hs hn E p hp _ _ hc hk
set_option maxRecDepth 100000 in
set_option maxHeartbeats 2000000 in
theorem rby_any (l:List UInt8) (A:Option Addr) (n c:Nat) (a most:Int) (w:World) (hs:Sl w A n c l) (hn:n≤140737488355328) (hm:-9223372036854775808≤most∧most < 9223372036854775808) :
  Calls Tryz.prog 138 #[.slice A n c,.int .i64 a,.int .i64 most] w (BytesPost3 5 (readBy l a most).1 ((readBy l a most).2.1:Nat) ((readBy l a most).2.2:Nat) w):=by
 have hl:=hs.len
 have HR:=Lib.hid hs.rb
 have HS:=Lib.hid hs
 have HN:Hid (n≤9223372036854775797):=Lib.hid (by omega)
 have hcap:=hs.cap
 have hlim:=hs.lim
 by_cases ho:outB n a=true
 ·have HO:=Lib.hid ho
  have H:Hid (BytesPost3 5 (readBy l a most).1 ((readBy l a most).2.1:Nat) ((readBy l a most).2.2:Nat) w (.returned (.tuple #[.slice none 0 0,.int .i64 0,.int .i64 1])) w):=Lib.hid (by
   unfold outB at ho
   simp at ho
   unfold readBy
   rw [if_pos (by omega)]
   exact bytes_none3 (Below.refl _ _))
  clear hs ho hl hcap hlim
  go_enter Tryz.func138,Tryz.ntmps138
  go_wp2_with (go_at_call 184;go_must (refine (outside_any A n c a _).mono ?_);rintro e w0 ⟨rfl,rfl⟩;rw [HO.out])
  go_ret3
  exact H.out
 have ho:outB n a=false:=by simpa using ho
 have HO:=Lib.hid ho
 have ha:0≤a∧a≤n:=by unfold outB at ho;simp at ho;omega
 by_cases hmn:most < 0
 ·have H:Hid (BytesPost3 5 (readBy l a most).1 ((readBy l a most).2.1:Nat) ((readBy l a most).2.2:Nat) w (.returned (.tuple #[.slice none 0 0,.int .i64 0,.int .i64 1])) w):=Lib.hid (by
   unfold readBy
   rw [if_pos (by omega)]
   exact bytes_none3 (Below.refl _ _))
  have hd:decide (most < 0)=true:=decide_eq_true hmn
  clear hs ho hl hcap hlim ha hm hmn
  go_enter Tryz.func138,Tryz.ntmps138
  go_wp2_with (go_at_call 184;go_must (refine (outside_any A n c a _).mono ?_);rintro e w0 ⟨rfl,rfl⟩;rw [HO.out])
  go_ret3
  exact H.out
 have hd:decide (most < 0)=false:=decide_eq_false hmn
 obtain ⟨M,rfl⟩:∃ M:Nat,most=(M:Int):=⟨most.toNat,by omega⟩
 have hbase:readBy l a M=if (readU l a).2.2 ≠ 0 then ([],0,(readU l a).2.2) else if (M:Int) < ((readU l a).1:Int) then ([],0,13) else if l.length - (readU l a).2.1 < (readU l a).1 then ([],0,10) else (cutS l (readU l a).2.1 (readU l a).1,(readU l a).2.1 + (readU l a).1,0):=by
  unfold readBy;rw [if_neg (by omega)]
 have hend:=readU_end l a
 have hval:=readU_val l a
 obtain ⟨v,hv⟩:∃ v,v=(readU l a).1:=⟨_,rfl⟩
 obtain ⟨p,hp⟩:∃ p,p=(readU l a).2.1:=⟨_,rfl⟩
 obtain ⟨k,hk⟩:∃ k,k=(readU l a).2.2:=⟨_,rfl⟩
 rw [← hv,← hp,← hk] at hbase
 rw [← hp,← hk] at hend
 rw [← hv] at hval
 have HU:Hid (RUPost (readU l a) w=RUPost (v,p,k) w):=Lib.hid (by rw [hv,hp,hk])
 clear hv hp hk hs ho ha
 by_cases hk0:k=0
 case neg =>
  have H:Hid (BytesPost3 5 (readBy l a M).1 ((readBy l a M).2.1:Nat) ((readBy l a M).2.2:Nat) w (.returned (.tuple #[.slice none 0 0,.int .i64 0,.int .i64 k])) w):=Lib.hid (by
   rw [hbase,if_pos hk0]
   exact bytes_none3 (Below.refl _ _))
  have hd2:((k:Int) != 0)=true:=by rw [bne_iff_ne];omega
  clear hbase hend hval hk0 hl hcap hlim hm hmn
  go_enter Tryz.func138,Tryz.ntmps138
  go_wp2_with (first
   | (go_at_call 184;go_must (refine (outside_any A n c a _).mono ?_);rintro e w0 ⟨rfl,rfl⟩;rw [HO.out])
   | (go_at_call 137;go_must (refine (ru_any l A n c a _ HN.out HR.out).mono ?_);rw [HU.out];rintro e w1 ⟨rfl,rfl⟩))
  go_ret3
  exact H.out
 subst hk0
 obtain ⟨hpn,ha0,hap⟩:=hend rfl
 rw [if_neg (by simp)] at hbase
 have XV:=Lib.hid hval
 by_cases hbig:M < v
 ·have H:Hid (BytesPost3 5 (readBy l a M).1 ((readBy l a M).2.1:Nat) ((readBy l a M).2.2:Nat) w (.returned (.tuple #[.slice none 0 0,.int .i64 0,.int .i64 13])) w):=Lib.hid (by
   rw [hbase,if_pos (by omega)]
   exact bytes_none3 (Below.refl _ _))
  have hd3:decide ((M:Int) < (v:Int))=true:=decide_eq_true (by omega)
  have hd4:decide (M < v)=true:=decide_eq_true hbig
  have hM0:(0:Int)≤(M:Int):=by omega
  clear hbase hval hl hcap hlim hmn hbig hpn hap hend
  go_enter Tryz.func138,Tryz.ntmps138
  go_wp2_with (first
   | (go_at_call 184;go_must (refine (outside_any A n c a _).mono ?_);rintro e w0 ⟨rfl,rfl⟩;rw [HO.out])
   | (go_at_call 137;go_must (refine (ru_any l A n c a _ HN.out HR.out).mono ?_);rw [HU.out];rintro e w1 ⟨rfl,rfl⟩))
  go_ret3
  exact H.out
 rw [if_neg (by omega)] at hbase
 have hd3:decide ((M:Int) < (v:Int))=false:=decide_eq_false (by omega)
 have hd4:decide (M < v)=false:=decide_eq_false hbig
 have hM0:(0:Int)≤(M:Int):=by omega
 by_cases htorn:n - p < v
 ·have H:Hid (BytesPost3 5 (readBy l a M).1 ((readBy l a M).2.1:Nat) ((readBy l a M).2.2:Nat) w (.returned (.tuple #[.slice none 0 0,.int .i64 0,.int .i64 10])) w):=Lib.hid (by
   rw [hbase,if_pos (by omega)]
   exact bytes_none3 (Below.refl _ _))
  have hd5:decide ((n:Int) - (p:Int) < (v:Int))=true:=decide_eq_true (by omega)
  have hpn2:p≤n:=by omega
  clear hbase hval hl hcap hlim hmn hbig hpn hap htorn hend
  go_enter Tryz.func138,Tryz.ntmps138
  go_wp2_with (first
   | (go_at_call 184;go_must (refine (outside_any A n c a _).mono ?_);rintro e w0 ⟨rfl,rfl⟩;rw [HO.out])
   | (go_at_call 137;go_must (refine (ru_any l A n c a _ HN.out HR.out).mono ?_);rw [HU.out];rintro e w1 ⟨rfl,rfl⟩))
  go_ret3
  exact H.out
 rw [if_neg (by omega)] at hbase
 have hd5:decide ((n:Int) - (p:Int) < (v:Int))=false:=decide_eq_false (by omega)
 have hpv:p + v≤n:=by omega
 have HB:=Lib.hid hbase
 have XS:Hid ((cutS l p v).length=v):=Lib.hid (by unfold cutS;rw [List.length_take,List.length_drop];omega)
 by_cases hcp:c=p
 ·have hv0:v=0:=by omega
  subst hv0
  subst hcp
  have HE:Hid (RB w w.heap.size A 0 (cutS l c 0)):=Lib.hid (by unfold cutS;rw [List.take_zero];exact RB.nil)
  have k1:c + 0 - c=0:=by omega
  have k2:c - c=0:=by omega
  clear hbase hval hl hlim hmn hbig hpn hap htorn hend
  go_enter Tryz.func138,Tryz.ntmps138
  go_wp2_with (first
   | (go_at_call 184;go_must (refine (outside_any A n c a _).mono ?_);rintro e w0 ⟨rfl,rfl⟩;rw [HO.out])
   | (go_at_call 137;go_must (refine (ru_any l A n c a _ HN.out HR.out).mono ?_);rw [HU.out];rintro e w1 ⟨rfl,rfl⟩)
   | (go_at_call 69;go_must (refine (clone_any (cutS l c 0) A 0 0 _ (by omega) (fun _=>rfl) HE.out).mono ?_);rintro e w2 ⟨A2,c2,rfl,hO2,hb2⟩))
  go_ret3
  rw [HB.out]
  exact ⟨A2,c2,rfl,hO2,hb2⟩
 ·have HE:Hid (RB w w.heap.size (A.map (·.add p)) v (cutS l p v)):=Lib.hid (by
   have:=(HS.out.rb.drop (k:=p) (cap:=c) (by omega) hcap).take (m:=v) (by omega)
   rwa [if_neg hcp] at this)
  have HA1:Hid (A.map (·.add p)=none→c - p=0):=Lib.hid fun h=>by cases A with
   | none=>have:=HS.out.nil rfl;omega
   | some _=>cases h
  have k1:p + v - p=v:=by omega
  have hvb:v≤140737488355328:=by omega
  clear hbase hval hl hlim hmn hbig hpn hap htorn hend
  go_enter Tryz.func138,Tryz.ntmps138
  go_wp2_with (first
   | (go_at_call 184;go_must (refine (outside_any A n c a _).mono ?_);rintro e w0 ⟨rfl,rfl⟩;rw [HO.out])
   | (go_at_call 137;go_must (refine (ru_any l A n c a _ HN.out HR.out).mono ?_);rw [HU.out];rintro e w1 ⟨rfl,rfl⟩)
   | (go_at_call 69;go_must (refine (clone_any (cutS l p v) _ v (c - p) _ hvb HA1.out HE.out).mono ?_);rintro e w2 ⟨A2,c2,rfl,hO2,hb2⟩))
  go_ret3
  rw [HB.out]
  refine ⟨A2,c2,?_,hO2,hb2⟩
  rw [show ((p + v:Nat):Int)=(p:Int) + v from by omega];rfl
set_option maxRecDepth 100000 in
set_option maxHeartbeats 1000000 in
theorem shared_any (a b:List UInt8) (A B:Option Addr) (n c m d:Nat) (w:World) (hn:n≤9223372036854775806) (ha:RB w w.heap.size A n a) (hb:RB w w.heap.size B m b) :
  Calls Tryz.prog 162 #[.slice A n c,.slice B m d] w fun e w'=>e = .returned (.int .i64 (shareN a b))∧Below w.heap.size w w':=by
 have HLA:=Lib.hid ha.len
 have HLB:=Lib.hid hb.len
 have HA:Hid (∀ w',Below w.heap.size w w'→RB w' w'.heap.size A n a):=Lib.hid fun w' h=>ha.later h
 have HB:Hid (∀ w',Below w.heap.size w w'→RB w' w'.heap.size B m b):=Lib.hid fun w' h=>hb.later h
 clear ha hb
 go_enter Tryz.func162,Tryz.ntmps162
 go_wp2
 go_loopw [5] (fun i wr=>∃ k:Nat,k≤shareN a b∧i = .int .i64 k∧Hid (Below w.heap.size w wr)) (fun i _=>n - (intOf i).toNat)
 case atStart=>exact ⟨0,Nat.zero_le _,rfl,Lib.hid (Below.refl _ _)⟩
 case round =>
  obtain ⟨k,hk,rfl,HW⟩:=hrel
  have HT:=Lib.hid (shareN_test a b k hk)
  have HK:=Lib.hid hk
  clear hk
  by_cases hkn:k < n
  case neg =>
   have hd1:decide ((k:Int) < (n:Int))=false:=decide_eq_false (by omega)
   have hd2:decide (k < n)=false:=decide_eq_false hkn
   have HE:Hid (shareN a b=k):=Lib.hid (by have:=(shareN_le a b).1;have:=HLA.out;have:=HK.out;omega)
   go_wp2_with fail
   go_quiet (fail)
   have HW2:=Lib.hid (below_drewN (n:=nq) HW.out)
   generalize wr.drewN nq=w3 at *
   go_wp2
   go_ret
   exact ⟨by rw [HE.out];rfl,HW2.out⟩
  have hd1:decide ((k:Int) < (n:Int))=true:=decide_eq_true (by omega)
  have hd2:decide (k < n)=true:=decide_eq_true hkn
  by_cases hkm:k < m
  case neg =>
   have hd3:decide ((k:Int) < (m:Int))=false:=decide_eq_false (by omega)
   have hd4:decide (k < m)=false:=decide_eq_false hkm
   have HE:Hid (shareN a b=k):=Lib.hid (by have:=(shareN_le a b).2;have:=HLB.out;have:=HK.out;omega)
   go_wp2_with fail
   go_quiet (fail)
   have HW2:=Lib.hid (below_drewN (n:=nq) HW.out)
   generalize wr.drewN nq=w3 at *
   go_wp2
   go_ret
   exact ⟨by rw [HE.out];rfl,HW2.out⟩
  have hd3:decide ((k:Int) < (m:Int))=true:=decide_eq_true (by omega)
  have hd4:decide (k < m)=true:=decide_eq_true hkm
  have hk1:(k:Int) < (n:Int):=by omega
  have hk2:(k:Int) < (m:Int):=by omega
  obtain ⟨b1,o1,x,rfl,_,hx,c1⟩:=(HA.out _ HW.out).at_ hkn
  obtain ⟨b2,o2,y,rfl,_,hy,c2⟩:=(HB.out _ HW.out).at_ hkm
  by_cases hxy:x=y
  case neg =>
   have he:((x.toNat:Int) == (y.toNat:Int))=false:=beq_eq_false_iff_ne.2 (fun h=>hxy (UInt8.toNat_inj.1 (by omega)))
   have he2:(x == y)=false:=beq_eq_false_iff_ne.2 hxy
   have he3:(x.toNat == y.toNat)=false:=beq_eq_false_iff_ne.2 (fun h=>hxy (UInt8.toNat_inj.1 h))
   have he4:¬ x.toNat=y.toNat:=fun h=>hxy (UInt8.toNat_inj.1 h)
   have HE:Hid (shareN a b=k):=Lib.hid (by
    have h1:=HT.out
    rw [hx,hy] at h1
    have h2:¬ k < shareN a b:=fun h=>hxy (Option.some.inj (h1.1 h).2.2)
    have:=HK.out;omega)
   clear hx hy
   go_wp2_with fail
   go_quiet (fail)
   have HW2:=Lib.hid (below_drewN (n:=nq) HW.out)
   clear c1 c2
   generalize wr.drewN nq=w3 at *
   go_wp2
   go_ret
   exact ⟨by rw [HE.out];rfl,HW2.out⟩
  subst hxy
  have he:((x.toNat:Int) == (x.toNat:Int))=true:=by simp
  have HE:Hid (k < shareN a b):=Lib.hid (HT.out.2 ⟨by have:=HLA.out;omega,by have:=HLB.out;omega,by rw [hx,hy]⟩)
  clear hx hy
  go_wp2_with fail
  go_quiet (fail)
  have HW2:=Lib.hid (below_drewN (n:=nq) HW.out)
  clear c1 c2
  generalize wr.drewN nq=w3 at *
  go_wp2
  go_roundw
  case rel=>exact ⟨k + 1,HE.out,by go_num,HW2⟩
  case measure=>simp [intOf];omega
set_option maxRecDepth 100000 in
theorem four_any (v:Nat) (w:World) (hv:v < 4294967296):Calls Tryz.prog 164 #[.int .u32 v] w (BytesPost 5 (four4 v) w):=by
 have hL:Hid (u8s (four4 v)=[.int .u8 ((v:Int) / 16777216),.int .u8 ((v:Int) / 65536 % 256),.int .u8 ((v:Int) / 256 % 256),.int .u8 ((v:Int) % 256)]):=Lib.hid (by
  show [u8v _,u8v _,u8v _,u8v _]=_
  rw [u8v_mod,u8v_mod,u8v_mod,u8v_mod];simp only [Int.natCast_ediv];rw [show ((v:Int) / ((16777216:Nat):Int) % 256)=(v:Int) / 16777216 from by omega];rfl)
 go_enter Tryz.func164,Tryz.ntmps164
 go_wp2_with fail
 go_ret
 refine ⟨_,_,rfl,?_,((Below.refl _ _).alloc (Nat.le_refl _) _)⟩
 show World.ownsRow _ _ _ _ _ _ _
 rw [hL.out]
 exact own_lit w #[.int .u8 ((v:Int) / 16777216),.int .u8 ((v:Int) / 65536 % 256),.int .u8 ((v:Int) / 256 % 256),.int .u8 ((v:Int) % 256)] 5 w.heap.size 4 1 (by simp) (by decide) rfl
set_option maxRecDepth 100000 in
set_option maxHeartbeats 1000000 in
theorem reverse4_any (a b d e:UInt8) (g c:Nat) (w x:World) (h:OW w [bytO 5 (some ⟨g,0,none⟩,c,[a,b,d,e])] x) :
  Calls Tryz.prog 165 #[.slice (some ⟨g,0,none⟩) 4 c] x fun r x'=>r = .returned (.tuple #[])∧OW w [bytO 5 (some ⟨g,0,none⟩,c,[e,d,b,a])] x':=by
 have HX:=Lib.hid h
 clear h
 go_enter Tryz.func165,Tryz.ntmps165
 go_wp2_with fail
 go_loopw [2,3] (fun i j wr=>(i = .int .i64 0∧j = .int .i64 3∧Hid (OW w [bytO 5 (some ⟨g,0,none⟩,c,[a,b,d,e])] wr))∨(i = .int .i64 1∧j = .int .i64 2∧Hid (OW w [bytO 5 (some ⟨g,0,none⟩,c,[e,b,d,a])] wr))∨(i = .int .i64 2∧j = .int .i64 1∧Hid (OW w [bytO 5 (some ⟨g,0,none⟩,c,[e,d,b,a])] wr))) (fun i _ _=>2 - (intOf i).toNat)
 case atStart=>exact .inl ⟨rfl,rfl,HX⟩
 case round =>
  clear HX
  rcases hrel with ⟨rfl,rfl,HX⟩ | ⟨rfl,rfl,HX⟩ | ⟨rfl,rfl,HX⟩
  ·go_wp2_with fail
   refine lt_start [13] (by kernel_rfl) ?_
   intro xd hd
   refine ⟨fun z=>OW w [bytO 5 (some ⟨g,0,none⟩,c,[a,b,d,e])] z,?_⟩
   have HS:=Lib.hid (HX.out.later hd)
   refine lp2 0 rfl (fun _=>HS.out) ?_
   simp only [Act.put,ls]
   refine lp2 1 rfl (fun _=>HS.out) ?_
   simp only [Act.put,ls]
   refine lp2 2 rfl (fun _=>HS.out) ?_
   simp only [Act.put,ls]
   refine lp2 3 rfl (fun _=>HS.out) ?_
   simp only [Act.put,ls]
   refine lp2 4 rfl (fun _=>HS.out) ?_
   simp only [Act.put,ls]
   refine lp2 5 rfl (fun _=>HS.out) ?_
   simp only [Act.put,ls]
   refine lp2 6 rfl (fun _=>HS.out) ?_
   simp only [Act.put,ls]
   refine lq 7 [12,13,14,15] rfl (yi_cell rfl rfl rfl (fun w hS=>(World.ownsRow.cellAt (OW.row hS (i:=0) rfl) 3 (by show 3 < 4 * 1;omega)).trans rfl) Tryz.isAgg5) HS.out ?_
   simp only [Act.put,ls]
   refine lp2 8 rfl (fun _=>HS.out) ?_
   simp only [Act.put,ls]
   refine lp2 9 rfl (fun _=>HS.out) ?_
   simp only [Act.put,ls]
   refine lp2 10 rfl (fun _=>HS.out) ?_
   simp only [Act.put,ls]
   refine lq 11 [12,13,14,15] rfl (yi_cell rfl rfl rfl (fun w hS=>(World.ownsRow.cellAt (OW.row hS (i:=0) rfl) 0 (by show 0 < 4 * 1;omega)).trans rfl) Tryz.isAgg5) HS.out ?_
   simp only [Act.put,ls]
   refine lp2 12 rfl (fun _=>HS.out) ?_
   simp only [Act.put,ls]
   refine lt_end 13 rfl (by kernel_rfl) rfl (by kernel_rfl) ?_
   refine wpo_store rfl HS.out 0 rfl 0 rfl (by show 0 < 4 * 1;omega) (u8v e) rfl (by kernel_rfl) rfl ?_
   intro z1 hz1 _
   simp only [Act.put]
   refine lt_pureF 14 rfl (by kernel_rfl) (by kernel_rfl) (by kernel_rfl) (by kernel_rfl) (by kernel_rfl) (fun _ _ _ h=>h) (v:=?_) (yi_run rfl (fun w=>?_)) ?_
   rotate_left
   ·first | (go_simp;done) | (go_simp;with_reducible rfl)
   simp only [Act.put,ls]
   refine lt_end 15 rfl (by kernel_rfl) rfl (by kernel_rfl) ?_
   refine wpo_store rfl hz1 0 rfl 3 rfl (by show 3 < 4 * 1;omega) (u8v a) rfl (by kernel_rfl) rfl ?_
   intro z2 hz2 _
   simp only [Act.put]
   refine lt_done (by kernel_rfl) ?_
   clear HS
   have HX2:Hid (OW w [bytO 5 (some ⟨g,0,none⟩,c,[e,b,d,a])] z2):=Lib.hid hz2
   clear hz1 hz2
   go_wp2_with fail
   go_roundw
   case rel=>exact .inr (.inl ⟨rfl,rfl,HX2⟩)
   case measure=>simp [intOf]
  ·go_wp2_with fail
   refine lt_start [13] (by kernel_rfl) ?_
   intro xd hd
   refine ⟨fun z=>OW w [bytO 5 (some ⟨g,0,none⟩,c,[e,b,d,a])] z,?_⟩
   have HS:=Lib.hid (HX.out.later hd)
   refine lp2 0 rfl (fun _=>HS.out) ?_
   simp only [Act.put,ls]
   refine lp2 1 rfl (fun _=>HS.out) ?_
   simp only [Act.put,ls]
   refine lp2 2 rfl (fun _=>HS.out) ?_
   simp only [Act.put,ls]
   refine lp2 3 rfl (fun _=>HS.out) ?_
   simp only [Act.put,ls]
   refine lp2 4 rfl (fun _=>HS.out) ?_
   simp only [Act.put,ls]
   refine lp2 5 rfl (fun _=>HS.out) ?_
   simp only [Act.put,ls]
   refine lp2 6 rfl (fun _=>HS.out) ?_
   simp only [Act.put,ls]
   refine lq 7 [12,13,14,15] rfl (yi_cell rfl rfl rfl (fun w hS=>(World.ownsRow.cellAt (OW.row hS (i:=0) rfl) 2 (by show 2 < 4 * 1;omega)).trans rfl) Tryz.isAgg5) HS.out ?_
   simp only [Act.put,ls]
   refine lp2 8 rfl (fun _=>HS.out) ?_
   simp only [Act.put,ls]
   refine lp2 9 rfl (fun _=>HS.out) ?_
   simp only [Act.put,ls]
   refine lp2 10 rfl (fun _=>HS.out) ?_
   simp only [Act.put,ls]
   refine lq 11 [12,13,14,15] rfl (yi_cell rfl rfl rfl (fun w hS=>(World.ownsRow.cellAt (OW.row hS (i:=0) rfl) 1 (by show 1 < 4 * 1;omega)).trans rfl) Tryz.isAgg5) HS.out ?_
   simp only [Act.put,ls]
   refine lp2 12 rfl (fun _=>HS.out) ?_
   simp only [Act.put,ls]
   refine lt_end 13 rfl (by kernel_rfl) rfl (by kernel_rfl) ?_
   refine wpo_store rfl HS.out 0 rfl 1 rfl (by show 1 < 4 * 1;omega) (u8v d) rfl (by kernel_rfl) rfl ?_
   intro z1 hz1 _
   simp only [Act.put]
   refine lt_pureF 14 rfl (by kernel_rfl) (by kernel_rfl) (by kernel_rfl) (by kernel_rfl) (by kernel_rfl) (fun _ _ _ h=>h) (v:=?_) (yi_run rfl (fun w=>?_)) ?_
   rotate_left
   ·first | (go_simp;done) | (go_simp;with_reducible rfl)
   simp only [Act.put,ls]
   refine lt_end 15 rfl (by kernel_rfl) rfl (by kernel_rfl) ?_
   refine wpo_store rfl hz1 0 rfl 2 rfl (by show 2 < 4 * 1;omega) (u8v b) rfl (by kernel_rfl) rfl ?_
   intro z2 hz2 _
   simp only [Act.put]
   refine lt_done (by kernel_rfl) ?_
   clear HS
   have HX2:Hid (OW w [bytO 5 (some ⟨g,0,none⟩,c,[e,d,b,a])] z2):=Lib.hid hz2
   clear hz1 hz2
   go_wp2_with fail
   go_roundw
   case rel=>exact .inr (.inr ⟨rfl,rfl,HX2⟩)
   case measure=>simp [intOf]
  ·go_wp2_with fail
   go_end0
   exact ⟨rfl,HX.out⟩
set_option maxRecDepth 100000 in
set_option maxHeartbeats 2000000 in
theorem summed_any (l:List UInt8) (A:Option Addr) (n c:Nat) (w:World) (hs:Sl w A n c l) (h4:4≤n) (ht:TabAt 0 w) :
  Calls Tryz.prog 192 #[.slice A n c] w fun e w'=>e = .returned (.bool (lowB (sumL (l.take (n - 4))) == l.drop (n - 4)))∧Below w.heap.size w w':=by
 have f1:Hid (∀ x:List UInt8,[x].flatten=x):=Lib.hid fun x=>by simp
 obtain ⟨k,rfl⟩:∃ k,n=k + 4:=⟨n - 4,by omega⟩
 have hcap:=hs.cap
 have hlim:=hs.lim
 obtain ⟨b1,o1,_,rfl,_,_,_⟩:=hs.rb.at_ (show 0 < k + 4 by omega)
 rw [show k + 4 - 4=k from by omega]
 have HT4:=Lib.hid (hs.take (m:=k) (by omega))
 have HD:Hid (∀ w',Below w.heap.size w w'→Sl w' (some ⟨b1,o1 + k,none⟩) 4 (c - k) (l.drop k)):=Lib.hid fun w' h=>by
  have:=(hs.later h).drop (k:=k) (by omega) (by omega)
  rw [show k + 4 - k=4 from by omega,Option.map_some,show (⟨b1,o1,none⟩:Addr).add k=⟨b1,o1 + k,none⟩ from by simp [Addr.add]] at this
  exact this
 have HTB:Hid (∀ w',Below w.heap.size w w'→TabAt 0 w'):=Lib.hid fun w' h=>ht.later h
 obtain ⟨t,htk⟩:∃ t,t=l.take k:=⟨_,rfl⟩
 obtain ⟨u,hu⟩:∃ t,t=l.drop k:=⟨_,rfl⟩
 rw [← htk] at HT4
 rw [← hu] at HD
 rw [← htk,← hu]
 obtain ⟨s,hsl⟩:∃ s,s=sumL t:=⟨_,rfl⟩
 have HSL:=Lib.hid hsl
 have hs32:s < 4294967296:=by rw [hsl];exact sumL_lt t
 rw [← hsl]
 obtain ⟨u3,u2,u1,u0,hf4,hlw⟩:∃ a b d e,four4 s=[a,b,d,e]∧lowB s=[e,d,b,a]:=⟨_,_,_,_,rfl,rfl⟩
 rw [hlw]
 have HF:=Lib.hid hf4
 clear hs hsl htk hu ht h4 hf4 hlw
 have i1:(0:Int)≤(k:Int):=by omega
 have i2:(k:Int)≤(c:Int):=by omega
 have i3:(k:Int)≤(k:Int) + 4:=by omega
 go_enter Tryz.func192,Tryz.ntmps192
 go_wp2_with (first
  | (go_at_call 135;go_must (refine (sum_any [t] _ 1 1 _ (by omega) (by exact HT4.out.one _ _) (HTB.out _ ((Below.refl _ _).alloc (Nat.le_refl _) _))).mono ?_);rintro e w1 ⟨rfl,rfl⟩;rw [f1.out,← HSL.out])
  | (go_at_call 164;go_must (refine (four_any s _ hs32).mono ?_);rintro e w2 hp;rw [HF.out] at hp;obtain ⟨A2,c2,rfl,_,ho,hb⟩:=hp.at_ (n:=4) rfl;have HB2:=Lib.hid (((Below.refl w.heap.size w).alloc (Nat.le_refl _) (.cells #[.slice (some ⟨b1,o1,none⟩) k c] 34)).trans (hb.mono (by simp)));obtain ⟨g,cp,hv,_,_,_⟩:=own_form ho (by show 0 < 4;omega);injection hv with hv _ hcp;subst hv;subst hcp;have HX:=Lib.hid (OW.byt1 hb ho);clear hp hb ho)
  | (go_at_call 165;go_must (refine (reverse4_any _ _ _ _ g _ _ _ HX.out).mono ?_);rintro e w3 ⟨rfl,hx⟩;have HX3:=Lib.hid hx;have HB3:=Lib.hid (((Below.refl w.heap.size w).alloc (Nat.le_refl _) (.cells #[.slice (some ⟨b1,o1,none⟩) k c] 34)).trans (hx.up.mono (by simp)));clear hx)
  | (go_at_call 87;go_must (refine (equal_any [u0,u1,u2,u3] u _ _ 4 _ 4 _ _ (HX3.out.sl (i:=0) rfl rfl).rb (HD.out _ HB3.out).rb).mono ?_);rintro e w4 ⟨rfl,rfl⟩))
 go_ret
 exact ⟨rfl,HB3.out⟩
def i64v (n:Nat):Value := .int .i64 (n:Int)
def bldC (R:Nat) (bv pv:Value) (A:Option Addr) (n c:Nat) (B:Option Addr) (m d:Nat) (e:Ent) (kv:Value) (N:Nat):List Value :=
 [i64v R,bv,pv,.slice A n c,.int .i64 e.fam,.slice B m d,.int .i64 e.ts,.int .i64 e.seq,.int .i64 e.kind,.slice none 0 0,kv,i64v N]
structure BldM where
  B:Option Addr
  bc:Nat
  pv:Value
  A:Option Addr
  ac:Nat
  Q:Option Addr
  qc:Nat
  K:Option Addr
  kc:Nat
  e:Ent
def bldO (R g:Nat) (s:BSt) (m:BldM):List Ob :=
 [boxO g (bldC R (.slice m.B s.body.length m.bc) m.pv m.A m.e.row.length m.ac m.Q m.e.qual.length m.qc m.e (.slice m.K s.key.length m.kc) s.n),bytO 5 (m.B,m.bc,s.body),rowO 3 1 m.pv s.places.length (s.places.map i64v),bytO 5 (m.A,m.ac,m.e.row),bytO 5 (m.Q,m.qc,m.e.qual),bytO 5 (m.K,m.kc,s.key)]
def lastE (L:List Ent) (e:Ent):Prop:=∀ l,L.getLast?=some l→e={ l with val:=[] }
def Bld (R:Nat) (L:List Ent) (g:Nat) (os:List Ob):Prop:=(1≤R∧R≤16)∧sizeS (runB R L)≤131072∧(runB R L).key.length≤1000000∧(∀ l,l ∈ L→checkE l=0)∧∃ m:BldM,os=bldO R g (runB R L) m∧lastE L m.e
def szB (R:Nat) (L:List Ent):Nat:=if L=[] then 0 else sizeS (runB R L)
theorem OW.addF9 {w x y:World} {os ps:List Ob} (h:OW w os x) (k:OW x ps y):OW w (ps ++ os) y:=(h.app k).perm List.perm_append_comm
def BeginP (R:Int) (w:World) (e:Ending) (w':World):Prop :=
 ((R < 1∨16 < R)∧e = .returned (.tuple #[.pointer none,.int .i64 1])∧Below w.heap.size w w') ∨
 (1≤R∧R≤16∧∃ g os,e = .returned (.tuple #[.pointer (some ⟨g,0,none⟩),.int .i64 0])∧Bld R.toNat [] g os∧OW w os w')
set_option maxRecDepth 100000 in
theorem begin_any (R:Int) (w:World):Calls Tryz.prog 107 #[.int .i64 R] w (BeginP R w):=by
 by_cases h1:R < 1
 ·have hd:decide (R < 1)=true:=decide_eq_true h1
  go_enter Tryz.func107,Tryz.ntmps107
  go_wp2_with fail
  go_ret2
  exact .inl ⟨.inl h1,rfl,Below.refl _ _⟩
 have hd:decide (R < 1)=false:=decide_eq_false h1
 by_cases h2:16 < R
 ·have hd2:decide (R > 16)=true:=decide_eq_true h2
  go_enter Tryz.func107,Tryz.ntmps107
  go_wp2_with fail
  go_ret2
  exact .inl ⟨.inr h2,rfl,Below.refl _ _⟩
 have hd2:decide (R > 16)=false:=decide_eq_false h2
 obtain ⟨r,rfl⟩:∃ r:Nat,R=(r:Int):=⟨R.toNat,by omega⟩
 have HX:=Lib.hid (OW.nil w)
 go_enter Tryz.func107,Tryz.ntmps107
 go_wp2_with (refine wl_box rfl (.tmp 11) rfl (bldC r (.slice none 0 0) (.slice none 0 0) none 0 0 none 0 0 noEnt (.slice none 0 0) 0) rfl HX.out ?_;intro g x1 hz _;replace HX:=Lib.hid hz;clear hz)
 go_ret2
 refine .inr ⟨by omega,by omega,g,_,rfl,⟨⟨by rw [Int.toNat_natCast];omega,by rw [Int.toNat_natCast];omega⟩,(by show 9≤131072;decide),Nat.zero_le _,(fun l h=>by cases h),⟨none,0,.slice none 0 0,none,0,none,0,none,0,noEnt⟩,rfl,fun l h=>by cases h⟩,?_⟩
 have hn:∀ {os:List Ob} {z:World},OW w os z→∀ T:TypeId,OW w (os ++ [rowO T 1 (.slice none 0 0) 0 []]) z:=fun h T=>h.app ⟨Below.refl _ _,fun o ho=>by
  obtain rfl:=List.mem_singleton.1 ho
  exact ⟨(fun e=>nomatch e),fun _=>own_nil _ _ _ _⟩,List.pairwise_singleton _ _⟩
 have h:=hn (hn (hn (hn (hn HX.out 5) 3) 5) 5) 5
 exact h
set_option maxRecDepth 100000 in
theorem size_any {w x:World} {R g:Nat} {L:List Ent} {os rest:List Ob} (hb:Bld R L g os) (h:OW w (os ++ rest) x) :
  Calls Tryz.prog 108 #[.pointer (some ⟨g,0,none⟩)] x fun e x'=>e = .returned (.int .i64 (szB R L:Nat))∧Below x.heap.size x x':=by
 obtain ⟨_,hsz,_,_,m,rfl,_⟩:=hb
 have hc:=h.cell (i:=0) (j:=11) rfl rfl
 have c1:=h.cell (i:=0) (j:=1) rfl rfl
 have c2:=h.cell (i:=0) (j:=2) rfl rfl
 obtain ⟨P,pc,hpv,_⟩:=own_slice (h.row (i:=2) rfl)
 rw [runB_n] at hc
 obtain ⟨N,hN⟩:∃ N,N=L.length:=⟨_,rfl⟩
 obtain ⟨bl,hbl⟩:∃ N,N=(runB R L).body.length:=⟨_,rfl⟩
 obtain ⟨pl,hpl⟩:∃ N,N=(runB R L).places.length:=⟨_,rfl⟩
 have hS:Hid (sizeS (runB R L)=bl + 4 * pl + 9):=Lib.hid (by unfold sizeS;rw [hbl,hpl])
 have hlim:bl + 4 * pl + 9≤131072:=by have:=hS.out;omega
 rw [hpv,← hpl] at c2
 rw [← hbl] at c1
 rw [← hN] at hc
 have hc:x.cell? ⟨g,11,none⟩=some (.int .i64 (N:Int)):=hc
 have HN:=Lib.hid hN
 clear h hN hbl hpl hpv hsz
 by_cases h0:N=0
 ·subst h0
  have HL:Hid (L=[]):=Lib.hid (List.eq_nil_of_length_eq_zero HN.out.symm)
  go_enter Tryz.func108,Tryz.ntmps108
  go_wp2_with (refine wpList_load_cell rfl 3 (.tmp 5) rfl rfl hc Tryz.isAgg3 ?_)
  go_ret
  exact ⟨by rw [show szB R L=0 from if_pos HL.out];rfl,Below.refl _ _⟩
 have HL:Hid (L ≠ []):=Lib.hid (fun e=>h0 (by rw [HN.out,e];rfl))
 have hd:((N:Int) == 0)=false:=beq_eq_false_iff_ne.2 (by omega)
 go_enter Tryz.func108,Tryz.ntmps108
 go_wp2_with (refine wpList_load_cell rfl 3 (.tmp 5) rfl rfl hc Tryz.isAgg3 ?_)
 go_quiet (fail)
 have HW2:=Lib.hid (below_drewN (n:=nq) (Below.refl x.heap.size x))
 clear hc c1 c2
 generalize x.drewN nq=w3 at *
 go_wp2
 go_ret
 refine ⟨?_,HW2.out⟩
 rw [show szB R L=bl + 4 * pl + 9 from (if_neg HL.out).trans hS.out]
 push_cast
 rfl
set_option maxRecDepth 100000 in
set_option maxHeartbeats 400000 in
theorem sclone_any (l:List UInt8) (A:Option Addr) (n c:Nat) (w:World) (hn:n≤140737488355328) (hA:A=none→c=0) (hr:RB w w.heap.size A n l) :
  Calls Tryz.prog 163 #[.slice A n c] w (BytesPost 5 l w):=by
 have hl:=hr.len
 have hnil:=fun (w':World)=>Lib.run_eql_slice_nil (P:=Tryz.prog) w' 34 5 A n c 0 0 Tryz.underlying34
 cases A with
 | none =>
  obtain rfl:=hA rfl
  have hn0:n=0:=by
   rcases Nat.eq_zero_or_pos n with h0 | h0
   ·exact h0
   ·obtain ⟨_,_,e,_⟩:=hr.2 h0
    cases e
  subst hn0
  have H:Hid (BytesPost 5 l w (.returned (.slice none 0 0)) w):=Lib.hid (by
   have hl0:l=[]:=List.eq_nil_of_length_eq_zero hl
   subst hl0
   exact bytes_post (n:=0) (own_nil _ _ _ _) (Below.refl _ _))
  clear hr hl
  go_enter Tryz.func163,Tryz.ntmps163
  go_wp2
  go_ret
  exact H.out
 | some ad =>
  have O1:=Lib.hid (u8s_one l)
  have HO:Hid ((w.alloc (.cells #[] 5)).ownsRow w.heap.size 5 1 (.slice (some ⟨w.heap.size,0,none⟩) 0 0) 0 []):=Lib.hid (World.ownsRow_made w #[] 0 (Nat.le_refl _) (by decide) rfl)
  have HR:Hid (RB (w.alloc (.cells #[] 5)) w.heap.size (some ad) n l):=Lib.hid (Reads.alloc hr (Nat.le_refl _) _)
  clear hr hA
  go_enter Tryz.func163,Tryz.ntmps163
  go_wp2_with (at_builtin;refine wpList_append_reads _ rfl (.tmp 5) (.tmp 6) rfl Tryz.u8s' w.heap.size (.slice (some ⟨w.heap.size,0,none⟩) 0 0) 0 [] rfl HO.out w.heap.size (some ad) n c (u8s l) rfl HR.out O1.out (by unfold maxLen;omega) (by omega) (by simp) ?_;intro v1 w1 hown1 hg1 hat1)
  go_ret
  rw [List.nil_append] at hown1
  exact bytes_post hown1 (below_app ((Below.refl _ _).alloc (Nat.le_refl _) _) HO.out hg1 (by simp) (Nat.le_refl _))
set_option maxRecDepth 100000 in
set_option maxHeartbeats 2000000 in
theorem sgrow_nil (n:Nat) (w:World) (hn:n≤1099511627776):Calls Tryz.prog 218 #[.slice none 0 0,.int .i64 n] w fun e w'=>∃ A c,e = .returned (.slice A 0 c)∧OwnB 5 w.heap.size w' A c []∧Below w.heap.size w w':=by
 by_cases h0:n=0
 ·subst h0
  go_enter Tryz.func218,Tryz.ntmps218
  go_wp2_with fail
  go_ret
  exact ⟨none,0,rfl,own_nil _ _ _ _,Below.refl _ _⟩
 obtain ⟨i0,hi,hz0,hs0,hb0⟩:=info_parts (show (Tryz.prog.info? 5).map (fun i=>(i.zero,i.size,i.bytes))=some (some (.int .u8 0),1,1) by kernel_rfl)
 have hold:(Builtin.firstCells i0.size 0 (.slice none 0 0)).run Tryz.prog w.drew = .ok (([]:List Value).toArray) w.drew:=by rw [hs0];exact run_firstCells_none w.drew 1 0 0 0
 have hrz:∀ ty,(Builtin.append_ #[34,3] ty #[.slice none 0 0,.int .i64 (n:Int)]).run Tryz.prog w = .ok (.slice (some ⟨w.heap.size,0,none⟩) n (grownCap w n 0 5)) (w.drew.alloc (.cells (#[] ++ Builtin.zeroCells #[.int .u8 0] n ++ Builtin.zeroCells #[.int .u8 0] (grownCap w n 0 5 - n)) 5)):=fun ty=>by
  have h:=Lib.run_append_grow_zeros w 34 3 ty 5 i0 (.int .u8 0) .i64 .i64 Tryz.underlying34 Tryz.underlying3 hi hz0 none 0 0 [] hold n (by omega) (by rw [hs0];omega) (by omega) (by omega) (by rw [hb0];omega) (by rw [hb0];exact growslice_fits (by omega) (by omega))
  rw [Nat.zero_add] at h
  exact h
 have hGn:n≤grownCap w n 0 5:=grownCap_ge w _ _ _
 obtain ⟨G,hG⟩:∃ G,G=grownCap w n 0 5:=⟨_,rfl⟩
 rw [← hG] at hrz hGn
 have hG63:G≤9223372036854775807:=by
  have:=grownCap_le_maxLen w n 0 5 (by unfold maxLen;omega)
  rw [← hG] at this
  unfold maxLen at this
  omega
 have hgt:(0:Int) < (n:Int):=by omega
 have HO:Hid ((w.alloc (.cells (Builtin.zeroCells #[.int .u8 0] n ++ Builtin.zeroCells #[.int .u8 0] (G - n)) 5)).drew.ownsRow w.heap.size 5 1 (.slice (some ⟨w.heap.size,0,none⟩) 0 G) 0 []):=Lib.hid (World.ownsRow_made w _ G (Nat.le_refl _) (by unfold maxLen;omega) (by
  simp only [Array.size_append,size_zeroCells,List.size_toArray,List.length_nil,List.length_cons];omega))
 clear hold hG h0
 go_enter Tryz.func218,Tryz.ntmps218
 go_wp2_with (at_builtin;refine Lib.wpList_append_run _ rfl _ _ _ _ rfl _ _ rfl rfl _ _ (hrz _) ?_)
 go_ret
 exact ⟨_,G,rfl,HO.out,((Below.refl _ _).alloc (Nat.le_refl _) _).drew⟩
theorem flat_take1 {ks:List (List UInt8)} {k:Nat} {x:List UInt8} (h:ks[k]?=some x):(ks.take (k + 1)).flatten=(ks.take k).flatten ++ x:=by
 rw [take_snoc h,List.flatten_append];simp
theorem flat_take_len (ks:List (List UInt8)) (k:Nat):(ks.take k).flatten.length≤ks.flatten.length:=by
 have e:=congrArg (fun l=>(List.flatten l).length) (List.take_append_drop k ks)
 simp only [List.flatten_append,List.length_append] at e
 omega
set_option maxRecDepth 100000 in
set_option maxHeartbeats 2000000 in
theorem sconcat_any (ks:List (List UInt8)) (A:Option Addr) (n c:Nat) (w:World) (hn:n≤1000000000) (hr:RBs w w.heap.size A n ks) (hb:ks.flatten.length≤1099511627776) :
  Calls Tryz.prog 216 #[.slice A n c] w (BytesPost 5 ks.flatten w):=by
 have HL:=Lib.hid hr.len
 have HR:Hid (∀ z,Below w.heap.size w z→RBs z z.heap.size A n ks):=Lib.hid fun z h=>hr.later h
 have HF:Hid (∀ k,(ks.take k).flatten.length≤1099511627776):=Lib.hid fun k=>Nat.le_trans (flat_take_len ks k) hb
 obtain ⟨N,hN⟩:∃ z,z=ks.flatten.length:=⟨_,rfl⟩
 rw [← hN] at hb
 have HN:=Lib.hid hN
 clear hr hN
 go_enter Tryz.func216,Tryz.ntmps216
 go_wp2_with fail
 go_loop [3,11] (fun s i=>∃ k t:Nat,k≤n∧t≤1099511627776∧i = .int .i64 k∧s = .int .i64 t∧Hid (t=(ks.take k).flatten.length)) (fun _ i=>n - (intOf i).toNat)
 case atStart=>exact ⟨0,0,Nat.zero_le _,by omega,rfl,rfl,Lib.hid rfl⟩
 case round =>
  obtain ⟨k,t,hk,ht,rfl,rfl,HT⟩:=hrel
  by_cases hlt:k < n
  case pos =>
   have hdk:decide ((k:Int) < (n:Int))=true:=decide_eq_true (by omega)
   obtain ⟨b,o,x,a,ck,rfl,hbl,hx,hcell,_,_,_,_⟩:=(HR.out w (Below.refl _ _)).at_ hlt
   have HX:=Lib.hid (flat_take1 hx)
   obtain ⟨m,hm⟩:∃ z,z=x.length:=⟨_,rfl⟩
   have hmb:t + m≤1099511627776:=by have h1:=HF.out (k + 1);rw [HX.out,List.length_append,← HT.out,← hm] at h1;exact h1
   rw [← hm] at hcell
   have HM:=Lib.hid hm
   have i1:(0:Int)≤(k:Int):=by omega
   have i2:(k:Int) < (n:Int):=by omega
   have i3:¬ ((t:Int) + (m:Int) < 0):=by omega
   clear hx hm
   go_wp2_with fail
   go_round
   case rel=>exact ⟨k + 1,t + m,by omega,hmb,by go_num,rfl,Lib.hid (by rw [HX.out,List.length_append,← HT.out,← HM.out])⟩
   case measure=>simp [intOf];omega
  have hdk:decide ((k:Int) < (n:Int))=false:=decide_eq_false (by omega)
  have HTN:Hid (t=N):=Lib.hid (by rw [HT.out,HN.out,take_all (by have:=HL.out;omega)])
  go_wp2_with (go_at_call 218;go_must (refine (sgrow_nil t _ ht).mono ?_);rintro r z1 ⟨A1,c1,rfl,ho,hb1⟩;have HX:=Lib.hid (OW.byt1 hb1 ho);clear ho hb1)
  go_loopw [6,27] (fun v i wr=>∃ (k:Nat) (A:Option Addr) (c m:Nat) (l:List UInt8),k≤n∧m≤1099511627776∧i = .int .i64 k∧v = .slice A m c∧Hid (l.length=m)∧Hid (l=(ks.take k).flatten)∧Hid (OW w [bytO 5 (A,c,l)] wr)) (fun _ i _=>n - (intOf i).toNat)
  case atStart=>exact ⟨0,A1,c1,0,[],Nat.zero_le _,by omega,rfl,rfl,Lib.hid rfl,Lib.hid rfl,HX⟩
  case round =>
   clear HX
   obtain ⟨k2,A2,c2,m2,l2,hk2,hm2,rfl,rfl,HL2,HP2,HX⟩:=hrel
   by_cases hlt2:k2 < n
   case pos =>
    have hdk2:decide ((k2:Int) < (n:Int))=true:=decide_eq_true (by omega)
    obtain ⟨b,o,x,a,ck,rfl,hbl,hx,hcell,_,_,_,hrb⟩:=(HR.out wr HX.out.up).at_ hlt2
    have HQ:=Lib.hid (flat_take1 hx)
    obtain ⟨m,hm⟩:∃ z,z=x.length:=⟨_,rfl⟩
    have hmb:m2 + m≤1099511627776:=by have h1:=HF.out (k2 + 1);rw [HQ.out,List.length_append,← HP2.out,← hm,HL2.out] at h1;exact h1
    rw [← hm] at hcell hrb
    have HM:=Lib.hid hm
    have HRB:=Lib.hid hrb
    have i1:(0:Int)≤(k2:Int):=by omega
    have i2:(k2:Int) < (n:Int):=by omega
    clear hx hm hrb
    go_wp2_with (at_builtin;go_must (refine wl_appB rfl (.tmp 31) (.tmp 32) rfl Tryz.u8s' HX.out 0 rfl HL2.out rfl _ _ m _ x rfl HRB.out (by omega) ?_);intro A3 c3 z3 hz;have HX3:Hid (OW w [bytO 5 (A3,c3,l2 ++ x)] z3):=Lib.hid hz;clear hz HX HRB hcell)
    go_roundw
    case rel=>exact ⟨k2 + 1,A3,c3,m2 + m,l2 ++ x,by omega,hmb,by go_num,rfl,Lib.hid (by rw [List.length_append,HL2.out,HM.out]),Lib.hid (by rw [HQ.out,HP2.out]),HX3⟩
    case measure=>simp [intOf];omega
   have hdk2:decide ((k2:Int) < (n:Int))=false:=decide_eq_false (by omega)
   go_wp2_with fail
   go_ret
   exact HX.out.bytes1 (by rw [HP2.out,take_all (by have:=HL.out;omega)]) HL2.out rfl
theorem rbs_two {w:World} {A B:Option Addr} {n c m d:Nat} {k l:List UInt8} (hk:Sl w A n c k) (hl:Sl w B m d l) (t:TypeId) (fr:Nat×Nat) :
  RBs (w.alloc (.cells #[.slice A n c,.slice B m d] t fr)) (w.alloc (.cells #[.slice A n c,.slice B m d] t fr)).heap.size (some ⟨w.heap.size,0,none⟩) 2 [k,l]:=by
 have hb:Below w.heap.size w (w.alloc (.cells #[.slice A n c,.slice B m d] t fr)):=(Below.refl _ _).alloc (Nat.le_refl _) _
 have h1:=hk.later hb
 have h2:=hl.later hb
 have e1:=hk.rb.len
 have e2:=hl.rb.len
 refine ⟨[.slice A n c,.slice B m d],⟨rfl,fun _=>⟨w.heap.size,0,rfl,by simp,fun j u hu=>?_⟩⟩,rfl,fun i x hx=>?_⟩
 ·rw [Nat.zero_add,World.cell?_alloc_mark,← Array.getElem?_toList];exact hu
 ·match i,hx with
  | 0,hx=>injection hx with hx;subst hx;exact ⟨A,c,by rw [e1];rfl,by rw [e1];exact h1.cap,h1.lim,h1.nil,by rw [e1];exact h1.rb⟩
  | 1,hx=>injection hx with hx;subst hx;exact ⟨B,d,by rw [e2];rfl,by rw [e2];exact h2.cap,h2.lim,h2.nil,by rw [e2];exact h2.rb⟩
structure ER where
  A:Option Addr
  c:Nat
  B:Option Addr
  d:Nat
  D:Option Addr
  q:Nat
  e:Ent
def ER.cells (r:ER):List Value:=[.slice r.A r.e.row.length r.c,.int .i64 r.e.fam,.slice r.B r.e.qual.length r.d,.int .i64 r.e.ts,.int .i64 r.e.seq,.int .i64 r.e.kind,.slice r.D r.e.val.length r.q]
def ER.v (r:ER):Value:=entV r.A r.e.row.length r.c r.B r.e.qual.length r.d r.D r.e.val.length r.q r.e
def ER.En (w:World) (r:ER):Prop:=YtfdbcfaeiglbeaaGreatDoor.En w r.A r.e.row.length r.c r.B r.e.qual.length r.d r.D r.e.val.length r.q r.e
theorem ER.len (r:ER):r.cells.length=7:=rfl
theorem ER.En.later {w x:World} {r:ER} (h:r.En w) (hb:Below w.heap.size w x):r.En x:=YtfdbcfaeiglbeaaGreatDoor.En.later h hb
theorem flat7_len (rs:List ER):(rs.flatMap ER.cells).length=rs.length * 7:=by
 induction rs with
 | nil=>rfl
 | cons r rs ih=>rw [List.flatMap_cons,List.length_append,ih,ER.len,List.length_cons];omega
theorem flat7_at:∀ {rs:List ER} {k:Nat} {r:ER},rs[k]?=some r→∀ j,j < 7→(rs.flatMap ER.cells)[k * 7 + j]?=r.cells[j]?
 | [],_,_,h,_,_=>by cases h
 | a::rs,0,r,h,j,hj=>by
  injection h with h;subst h
  rw [List.flatMap_cons,Nat.zero_mul,Nat.zero_add,List.getElem?_append_left (by rw [ER.len];exact hj)]
 | a::rs,k + 1,r,h,j,hj=>by
  rw [List.flatMap_cons,List.getElem?_append_right (by rw [ER.len];omega),ER.len,show (k + 1) * 7 + j - 7=k * 7 + j from by omega]
  exact flat7_at (rs:=rs) h j hj
def Ens (w:World) (A:Option Addr) (n:Nat) (es:List Ent):Prop:=∃ rs:List ER,rs.map ER.e=es∧Reads w w.heap.size 7 A n (rs.flatMap ER.cells)∧∀ r,r ∈ rs→r.En w
section
variable {w x : World} {A : Option Addr} {n : Nat} {es : List Ent}
theorem Ens.len (h:Ens w A n es):es.length=n:=by
 obtain ⟨rs,rfl,hr,_⟩:=h
 have:=hr.1
 rw [flat7_len] at this
 rw [List.length_map];omega
theorem Ens.later (h:Ens w A n es) (hb:Below w.heap.size w x):Ens x A n es:=by
 obtain ⟨rs,e,hr,hE⟩:=h
 exact ⟨rs,e,(hr.below hb).more hb.size,fun r hr=>(hE r hr).later hb⟩
theorem Ens.nil:Ens w A 0 []:=⟨[],rfl,Reads.nil,fun r h=>by cases h⟩
theorem Ens.at_ (h:Ens w A n es) {k:Nat} (hk:k < n):∃ (b o:Nat) (Ar:Option Addr) (c:Nat) (B:Option Addr) (d:Nat) (D:Option Addr) (q:Nat) (e:Ent),A=some ⟨b,o,none⟩∧b < w.heap.size∧es[k]?=some e ∧
  w.rangeAt b (o + k * 7) [.slice Ar e.row.length c,.int .i64 e.fam,.slice B e.qual.length d,.int .i64 e.ts,.int .i64 e.seq,.int .i64 e.kind,.slice D e.val.length q]∧En w Ar e.row.length c B e.qual.length d D e.val.length q e:=by
 have hl:=h.len
 obtain ⟨rs,rfl,hr,hE⟩:=h
 rw [List.length_map] at hl
 obtain ⟨b,o,hA,hb,hc⟩:=hr.2 (by omega)
 obtain ⟨r,hrk⟩:∃ r,rs[k]?=some r:=⟨_,List.getElem?_eq_getElem (by omega)⟩
 refine ⟨b,o,r.A,r.c,r.B,r.d,r.D,r.q,r.e,hA,hb,by rw [List.getElem?_map,hrk];rfl,fun j v hj=>?_,hE r (List.mem_of_getElem? hrk)⟩
 have hj7:j < 7:=(List.getElem?_eq_some_iff.1 hj).1
 have:=hc (k * 7 + j) v (by rw [flat7_at hrk j hj7];exact hj)
 rwa [← Nat.add_assoc] at this
theorem flat7_take (rs:List ER) (m:Nat):(rs.flatMap ER.cells).take (m * 7)=(rs.take m).flatMap ER.cells:=by
 induction rs generalizing m with
 | nil=>simp
 | cons r rs ih =>
  cases m with
  | zero=>simp
  | succ m =>
   rw [List.flatMap_cons,List.take_succ_cons,List.flatMap_cons,List.take_append,ER.len,List.take_of_length_le (by rw [ER.len];omega),show (m + 1) * 7 - 7=m * 7 from by omega,ih]
theorem Ens.take (h:Ens w A n es) {m:Nat} (hm:m≤n):Ens w A m (es.take m):=by
 obtain ⟨rs,rfl,hr,hE⟩:=h
 refine ⟨rs.take m,by rw [List.map_take],?_,fun r hr'=>hE r (List.mem_of_mem_take hr')⟩
 rw [← flat7_take]
 exact hr.take hm
end
theorem OW.ens {w x:World} {os:List Ob} {A:Option Addr} {n c i:Nat} {T:TypeId} {rs:List ER} (h:OW w os x) (hi:os[i]?=some (rowO T 7 (.slice A n c) n (rs.flatMap ER.cells))) (hE:∀ r,r ∈ rs→r.En x):Ens x A n (rs.map ER.e) :=
 ⟨rs,rfl,Reads.own (h.row hi),hE⟩
end Go.Proofs.YtfdbcfaeiglbeaaGreatDoor
namespace Go.Proofs.YtfdbcfaeiglbeaaGreatDoor
open Go.ChangeShapes Go.WideShapes Go.ChangeAt Go.RowKit Go.Joins Go.Deep
theorem Tryz.own:ownKnob Tryz.prog.godebug=none:=by kernel_rfl
theorem Tryz.laidOut:laidOutB Tryz.prog=true:=by kernel_rfl
theorem gTab : Tryz.prog.globalNamed "strata/wire.table" = some 0 := by kernel_rfl
theorem gTabType:(Tryz.prog.globals[0]?).map (·.type)=some 269:=by kernel_rfl
theorem gTabCells:Tryz.prog.cellsOf 269=16:=by kernel_rfl
theorem gTabCell:Tryz.prog.cellsOf 106=1:=by kernel_rfl
def tabZ:List Int:=[0,274646895,549293790,820201905,1098587580,1361435347,1640403810,1905808397,2197175160,2460548119,2722870694,2987750089,3280807620,3553878443,3811616794,4084100981]
theorem tabZ_at:∀ i:Fin 16,tabZ.getD i.val 0=(tabN i.val:Int):=by decide +kernel
theorem table_of {W : World} (h : laidMetH Tryz.prog [("strata/wire.table", Rows.laid_strata_wire_table)] W) : TabAt 0 W := by
 have ht : Lib.TabIs Tryz.prog W "strata/wire.table" .u32 tabZ := Lib.tabIs_of_head (rest := []) gTab gTabType Tryz.underlying269 Tryz.underlying106 gTabCell gTabCells h
 have hc:∀ i,i < 16→W.cell? ⟨0,i,none⟩=some (.int .u32 (tabN i)):=fun i hi=>by
  rw [ht.cell gTab i hi,tabZ_at ⟨i,hi⟩]
 exact ⟨World.block_lt_of_cell? W ⟨0,0,none⟩ (hc 0 (by decide)),hc⟩
noncomputable def laidWorld (os:Os):World :=
 { World.holding Tryz.prog os ⟨#[],#[],[]⟩ with heap:=(World.holding Tryz.prog os ⟨#[],#[],[]⟩).heap.modify 0 fun
   | .cells _ t frozen => .cells #[.int .u32 0,.int .u32 274646895,.int .u32 549293790,.int .u32 820201905,.int .u32 1098587580,.int .u32 1361435347,.int .u32 1640403810,.int .u32 1905808397,.int .u32 2197175160,.int .u32 2460548119,.int .u32 2722870694,.int .u32 2987750089,.int .u32 3280807620,.int .u32 3553878443,.int .u32 3811616794,.int .u32 4084100981] t frozen
   | o=>o }
end Go.Proofs.YtfdbcfaeiglbeaaGreatDoor
namespace Go.Proofs.YtfdbcfaeiglbeaaGreatDoor
open Go.RowKit Go.WideShapes Go.ChangeShapes Go.Joins Go.Deep
section
variable {H : Type} {enc : TypeId × Value → H} {w : World} {base : Nat} {held : Bool}
end
end Go.Proofs.YtfdbcfaeiglbeaaGreatDoor
