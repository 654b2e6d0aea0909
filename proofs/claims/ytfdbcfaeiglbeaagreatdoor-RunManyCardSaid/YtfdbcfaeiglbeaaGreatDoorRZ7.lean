/-
 CellW4.
-/
import Derived.Test.YtfdbcfaeiglbeaaGreatDoorRZ5
namespace Go.Proofs.YtfdbcfaeiglbeaaGreatDoor
open Go.RowKit
def EntPost (mk:Value→Value) (e:Ent) (w:World) (r:Ending) (w':World):Prop :=
 ∃ A c B d D q,r = .returned (mk (entV A e.row.length c B e.qual.length d D e.val.length q e))∧RowsB 5 w.heap.size w' [(A,c,e.row),(B,d,e.qual),(D,q,e.val)]∧Below w.heap.size w w'
def NoPost (w:World) (r:Ending) (w':World):Prop :=
 (∃ A1 n1 c1 f A2 n2 c2 t s k,r = .returned (.tuple #[.agg #[.slice A1 n1 c1,.int .i64 f,.slice A2 n2 c2,.int .i64 t,.int .i64 s,.int .i64 k,.slice none 0 0],.bool false]))∧Below w.heap.size w w'
section
variable {T : TypeId} {base base' : Nat} {w w' : World} {rs : RowL} {mk : Value → Value}
theorem rows_low (h:RowsB T base w rs) (hb:base'≤base):RowsB T base' w rs:=⟨fun i r hr=>(h.1 i r hr).rebase hb,h.2⟩
theorem rows_nil (h:RowsB T base w rs):RowsB T base w (rs ++ [(none,0,[])]):=h.snoc (own_nil _ _ _ _) fun _ _ _ a b _ e=>by cases e
theorem ent_none (hb:Below w.heap.size w w'):EntPost mk noEnt w (.returned (mk (entV none 0 0 none 0 0 none 0 0 noEnt))) w' :=
 ⟨none,0,none,0,none,0,rfl,rows_nil (rows_nil (rows_nil RowsB.nil)),hb⟩
theorem ent_post {row qual:List UInt8} {f t s k:Int} {A1 A2:Option Addr} {c1 c2:Nat} (h:RowsB 5 w.heap.size w' [(A1,c1,row),(A2,c2,qual)]) (hb:Below w.heap.size w w') :
  EntPost mk ⟨row,f,qual,t,s,k,[]⟩ w (.returned (mk (.agg #[.slice A1 row.length c1,.int .i64 f,.slice A2 qual.length c2,.int .i64 t,.int .i64 s,.int .i64 k,.slice none 0 0]))) w' :=
 ⟨A1,c1,A2,c2,none,0,rfl,rows_nil h,hb⟩
theorem ent_post_n {row:List UInt8} {f t s k:Int} {A1:Option Addr} {c1:Nat} (h:RowsB 5 w.heap.size w' [(A1,c1,row)]) (hb:Below w.heap.size w w') :
  EntPost mk ⟨row,f,[],t,s,k,[]⟩ w (.returned (mk (.agg #[.slice A1 row.length c1,.int .i64 f,.slice none 0 0,.int .i64 t,.int .i64 s,.int .i64 k,.slice none 0 0]))) w' :=
 ⟨A1,c1,none,0,none,0,rfl,rows_nil (rows_nil h),hb⟩
end
set_option maxRecDepth 100000 in
set_option maxHeartbeats 2000000 in
theorem pa_N_f1a (b:List UInt8) (A:Option Addr) (n c:Nat) (w:World) (rw0:List UInt8) (p1 er:Nat) (hs:Sl w A n c b) (hn:n≤140737488355000) (h0:readO b 0=(rw0,p1,er)) (he:er ≠ 0) :
  Calls Tryz.prog 155 #[.slice A n c] w (NoPost w):=by
 have HS:Hid (∀ x,Below w.heap.size w x→Sl x A n c b):=Lib.hid fun x h=>hs.later h
 have HX0:=Lib.hid (Bt.of (T:=5) (Bxs.two w 60 #[.slice none 0 0,.int .i64 0,.slice none 0 0,.int .i64 0,.int .i64 0,.int .i64 0,.slice none 0 0] #[.slice none 0 0,.int .i64 0,.slice none 0 0,.int .i64 0,.int .i64 0,.int .i64 0,.slice none 0 0]))
 have H0:=Lib.hid h0
 have hd:((er:Int) != 0)=true:=by rw [bne_iff_ne];omega
 have tO1:True:=trivial
 clear hs h0 he
 go_enter Tryz.func155,Tryz.ntmps155
 go_wp2_with (first
  | (go_at_call 196;have _t:=tO1;go_must (refine (ro_any b A n c 0 _ (HS.out _ HX0.out.box.up) hn).mono ?_);rw [H0.out];rintro e x1 hp;obtain ⟨A1,c1,rfl,_,hO1,hb1⟩:=hp.at_ (n:=rw0.length) rfl rfl rfl;have HX1:=Lib.hid (HX0.out.fresh hb1 hO1);clear hb1 hp hO1 tO1;have z0:=HX1.out.box.c0 (i:=0) (v := .slice none 0 0) rfl rfl;have y0:=HX1.out.box.c1 (i:=0) (v := .slice none 0 0) rfl rfl;have z1:=HX1.out.box.c0 (i:=1) (v := .int .i64 0) rfl rfl;have y1:=HX1.out.box.c1 (i:=1) (v := .int .i64 0) rfl rfl;have z2:=HX1.out.box.c0 (i:=2) (v := .slice none 0 0) rfl rfl;have y2:=HX1.out.box.c1 (i:=2) (v := .slice none 0 0) rfl rfl;have z3:=HX1.out.box.c0 (i:=3) (v := .int .i64 0) rfl rfl;have y3:=HX1.out.box.c1 (i:=3) (v := .int .i64 0) rfl rfl;have z4:=HX1.out.box.c0 (i:=4) (v := .int .i64 0) rfl rfl;have y4:=HX1.out.box.c1 (i:=4) (v := .int .i64 0) rfl rfl;have z5:=HX1.out.box.c0 (i:=5) (v := .int .i64 0) rfl rfl;have y5:=HX1.out.box.c1 (i:=5) (v := .int .i64 0) rfl rfl;have z6:=HX1.out.box.c0 (i:=6) (v := .slice none 0 0) rfl rfl;have y6:=HX1.out.box.c1 (i:=6) (v := .slice none 0 0) rfl rfl;have fz:=HX1.out.box.f0 rfl;have fy:=HX1.out.box.f1 rfl))
 (try simp only [Exit.inBlock,Exit.then])
 have HR:=Lib.hid ((HX1.out.fill7 rfl (.slice none 0 0) (.int .i64 0) (.slice none 0 0) (.int .i64 0) (.int .i64 0) (.int .i64 0) (.slice none 0 0)))
 refine bodyPost_ret (results_box1 rfl _ _ w.heap.size _ rfl (HR.out.box.cells0 rfl) (by kernel_rfl) (by kernel_rfl)) rfl ?_
 exact ⟨⟨_,_,_,_,_,_,_,_,_,_,rfl⟩,HR.out.box.up⟩
set_option maxRecDepth 100000 in
set_option maxHeartbeats 2000000 in
theorem pa_N_f1b (b:List UInt8) (A:Option Addr) (n c:Nat) (w:World) (row:List UInt8) (p1:Nat) (hs:Sl w A n c b) (hn:n≤140737488355000) (h0:readO b 0=(row,p1,0)) (hp1:p1≤n) (hsh:n < p1 + 2) :
  Calls Tryz.prog 155 #[.slice A n c] w (NoPost w):=by
 have HS:Hid (∀ x,Below w.heap.size w x→Sl x A n c b):=Lib.hid fun x h=>hs.later h
 have HX0:=Lib.hid (Bt.of (T:=5) (Bxs.two w 60 #[.slice none 0 0,.int .i64 0,.slice none 0 0,.int .i64 0,.int .i64 0,.int .i64 0,.slice none 0 0] #[.slice none 0 0,.int .i64 0,.slice none 0 0,.int .i64 0,.int .i64 0,.int .i64 0,.slice none 0 0]))
 have H0:=Lib.hid h0
 have tO1:True:=trivial
 clear hs h0
 go_enter Tryz.func155,Tryz.ntmps155
 go_wp2_with (first
  | (go_at_call 196;have _t:=tO1;go_must (refine (ro_any b A n c 0 _ (HS.out _ HX0.out.box.up) hn).mono ?_);rw [H0.out];rintro e x1 hp;obtain ⟨A1,c1,rfl,_,hO1,hb1⟩:=hp.at_ (n:=row.length) rfl rfl rfl;have HX1:=Lib.hid (HX0.out.fresh hb1 hO1);clear hb1 hp hO1 tO1;have z0:=HX1.out.box.c0 (i:=0) (v := .slice none 0 0) rfl rfl;have y0:=HX1.out.box.c1 (i:=0) (v := .slice none 0 0) rfl rfl;have z1:=HX1.out.box.c0 (i:=1) (v := .int .i64 0) rfl rfl;have y1:=HX1.out.box.c1 (i:=1) (v := .int .i64 0) rfl rfl;have z2:=HX1.out.box.c0 (i:=2) (v := .slice none 0 0) rfl rfl;have y2:=HX1.out.box.c1 (i:=2) (v := .slice none 0 0) rfl rfl;have z3:=HX1.out.box.c0 (i:=3) (v := .int .i64 0) rfl rfl;have y3:=HX1.out.box.c1 (i:=3) (v := .int .i64 0) rfl rfl;have z4:=HX1.out.box.c0 (i:=4) (v := .int .i64 0) rfl rfl;have y4:=HX1.out.box.c1 (i:=4) (v := .int .i64 0) rfl rfl;have z5:=HX1.out.box.c0 (i:=5) (v := .int .i64 0) rfl rfl;have y5:=HX1.out.box.c1 (i:=5) (v := .int .i64 0) rfl rfl;have z6:=HX1.out.box.c0 (i:=6) (v := .slice none 0 0) rfl rfl;have y6:=HX1.out.box.c1 (i:=6) (v := .slice none 0 0) rfl rfl;have fz:=HX1.out.box.f0 rfl;have fy:=HX1.out.box.f1 rfl))
 (try simp only [Exit.inBlock,Exit.then])
 have HR:=Lib.hid ((HX1.out.fill7 rfl (.slice none 0 0) (.int .i64 0) (.slice none 0 0) (.int .i64 0) (.int .i64 0) (.int .i64 0) (.slice none 0 0)))
 refine bodyPost_ret (results_box1 rfl _ _ w.heap.size _ rfl (HR.out.box.cells0 rfl) (by kernel_rfl) (by kernel_rfl)) rfl ?_
 exact ⟨⟨_,_,_,_,_,_,_,_,_,_,rfl⟩,HR.out.box.up⟩
set_option maxRecDepth 100000 in
set_option maxHeartbeats 2000000 in
theorem pa_P_f2a (b:List UInt8) (A:Option Addr) (n c:Nat) (w:World) (row:List UInt8) (p1:Nat) (f g:UInt8) (ql0:List UInt8) (p2 er:Nat) (hs:Sl w A n c b) (hn:n≤140737488355000) (h0:readO b 0=(row,p1,0)) (hlen:p1 + 2≤n) (hf:b[p1]?=some f) (hg:b[p1 + 1]?=some g) (hg0:g.toNat ≠ 0) (h2:readO b ((p1 + 2:Nat):Int)=(ql0,p2,er)) (he:er ≠ 0) :
  Calls Tryz.prog 155 #[.slice A n c] w (NoPost w):=by
 have HS:Hid (∀ x,Below w.heap.size w x→Sl x A n c b):=Lib.hid fun x h=>hs.later h
 have HX0:=Lib.hid (Bt.of (T:=5) (Bxs.two w 60 #[.slice none 0 0,.int .i64 0,.slice none 0 0,.int .i64 0,.int .i64 0,.int .i64 0,.slice none 0 0] #[.slice none 0 0,.int .i64 0,.slice none 0 0,.int .i64 0,.int .i64 0,.int .i64 0,.slice none 0 0]))
 have H0:=Lib.hid h0
 obtain ⟨bb,oo,_,rfl,hbb,_,_⟩:=hs.rb.at_ (k:=p1) (by omega)
 have HC:Hid (∀ (j:Nat) (u:UInt8) x,b[j]?=some u→Below w.heap.size w x→x.cell? ⟨bb,oo + j,none⟩=some (.int .u8 (u.toNat:Int))):=Lib.hid fun j u x hu hx=>(hs.rb.later hx).cell hu
 have hbb0:¬ bb=w.heap.size:=by omega
 have hbb1:¬ bb=w.heap.size + 1:=by omega
 have HF:=Lib.hid hf
 have HG:=Lib.hid hg
 have hgd:((g.toNat:Int) != 0)=true:=by rw [bne_iff_ne];omega
 have H2:=Lib.hid h2
 have hd:((er:Int) != 0)=true:=by rw [bne_iff_ne];omega
 have q1:(p1:Int) < (n:Int):=by omega
 have q2:(p1:Int) + 1 < (n:Int):=by omega
 have q3:decide ((n:Int) < (p1:Int) + 2)=false:=decide_eq_false (by omega)
 have tO1:True:=trivial
 have tO2:True:=trivial
 clear hs h0 hf hg hg0 h2 he
 go_enter Tryz.func155,Tryz.ntmps155
 go_wp2_with (go_at_call 196;have _t:=tO1;go_must (refine (ro_any b (some ⟨bb,oo,none⟩) n c 0 _ (HS.out _ HX0.out.box.up) hn).mono ?_);rw [H0.out];rintro e x1 hp;obtain ⟨A1,c1,rfl,_,hO1,hb1⟩:=hp.at_ (n:=row.length) rfl rfl rfl;have HX1:=Lib.hid (HX0.out.fresh hb1 hO1);clear hb1 hp hO1 tO1;have z0:=HX1.out.box.c0 (i:=0) (v := .slice none 0 0) rfl rfl;have y0:=HX1.out.box.c1 (i:=0) (v := .slice none 0 0) rfl rfl;have z1:=HX1.out.box.c0 (i:=1) (v := .int .i64 0) rfl rfl;have y1:=HX1.out.box.c1 (i:=1) (v := .int .i64 0) rfl rfl;have z2:=HX1.out.box.c0 (i:=2) (v := .slice none 0 0) rfl rfl;have y2:=HX1.out.box.c1 (i:=2) (v := .slice none 0 0) rfl rfl;have z3:=HX1.out.box.c0 (i:=3) (v := .int .i64 0) rfl rfl;have y3:=HX1.out.box.c1 (i:=3) (v := .int .i64 0) rfl rfl;have z4:=HX1.out.box.c0 (i:=4) (v := .int .i64 0) rfl rfl;have y4:=HX1.out.box.c1 (i:=4) (v := .int .i64 0) rfl rfl;have z5:=HX1.out.box.c0 (i:=5) (v := .int .i64 0) rfl rfl;have y5:=HX1.out.box.c1 (i:=5) (v := .int .i64 0) rfl rfl;have z6:=HX1.out.box.c0 (i:=6) (v := .slice none 0 0) rfl rfl;have y6:=HX1.out.box.c1 (i:=6) (v := .slice none 0 0) rfl rfl;have fz:=HX1.out.box.f0 rfl;have fy:=HX1.out.box.f1 rfl;have g1:=HC.out p1 f _ HF.out HX1.out.box.up;have g2:=HC.out (p1 + 1) g _ HG.out HX1.out.box.up)
 go_region
 rw [show wrap64 ((f.toNat:Nat):Int)=(f.toNat:Int) from wrap64_id (by omega) (by have:=f.toNat_lt;omega)]
 go_wp2_with (first
  | (go_at_call 196;have _t:=tO2;go_must (refine (ro_any b (some ⟨bb,oo,none⟩) n c _ _ (HS.out _ ((HX1.out.s1_0 (.slice A1 row.length c1)).s1_1 (.int .i64 (f.toNat:Int))).drew.box.up) hn).mono ?_);rw [show ((p1:Int) + 2)=((p1 + 2:Nat):Int) from by omega,H2.out];rintro e x2 hp;obtain ⟨A2,c2,rfl,_,hO2,hb2⟩:=hp.at_ (n:=ql0.length) rfl rfl rfl;have HX2:=Lib.hid (((HX1.out.s1_0 (.slice A1 row.length c1)).s1_1 (.int .i64 (f.toNat:Int))).drew.fresh hb2 hO2);clear hb2 hp hO2 tO2 g1 g2;clear z0 y0 z1 y1 z2 y2 z3 y3 z4 y4 z5 y5 z6 y6 fz fy;have z0:=HX2.out.box.c0 (i:=0) (v := .slice none 0 0) rfl rfl;have y0:=HX2.out.box.c1 (i:=0) (v := .slice A1 row.length c1) rfl rfl;have z1:=HX2.out.box.c0 (i:=1) (v := .int .i64 0) rfl rfl;have y1:=HX2.out.box.c1 (i:=1) (v := .int .i64 (f.toNat:Int)) rfl rfl;have z2:=HX2.out.box.c0 (i:=2) (v := .slice none 0 0) rfl rfl;have y2:=HX2.out.box.c1 (i:=2) (v := .slice none 0 0) rfl rfl;have z3:=HX2.out.box.c0 (i:=3) (v := .int .i64 0) rfl rfl;have y3:=HX2.out.box.c1 (i:=3) (v := .int .i64 0) rfl rfl;have z4:=HX2.out.box.c0 (i:=4) (v := .int .i64 0) rfl rfl;have y4:=HX2.out.box.c1 (i:=4) (v := .int .i64 0) rfl rfl;have z5:=HX2.out.box.c0 (i:=5) (v := .int .i64 0) rfl rfl;have y5:=HX2.out.box.c1 (i:=5) (v := .int .i64 0) rfl rfl;have z6:=HX2.out.box.c0 (i:=6) (v := .slice none 0 0) rfl rfl;have y6:=HX2.out.box.c1 (i:=6) (v := .slice none 0 0) rfl rfl;have fz:=HX2.out.box.f0 rfl;have fy:=HX2.out.box.f1 rfl))
 (try simp only [Exit.inBlock,Exit.then])
 have HR:=Lib.hid ((HX2.out.fill7 rfl (.slice A1 row.length c1) (.int .i64 (f.toNat:Int)) (.slice none 0 0) (.int .i64 0) (.int .i64 0) (.int .i64 0) (.slice none 0 0)))
 refine bodyPost_ret (results_box1 rfl _ _ w.heap.size _ rfl (HR.out.box.cells0 rfl) (by kernel_rfl) (by kernel_rfl)) rfl ?_
 exact ⟨⟨_,_,_,_,_,_,_,_,_,_,rfl⟩,HR.out.box.up⟩
set_option maxRecDepth 100000 in
set_option maxHeartbeats 2000000 in
theorem pa_P_f2b (b:List UInt8) (A:Option Addr) (n c:Nat) (w:World) (row:List UInt8) (p1:Nat) (f g:UInt8) (qual:List UInt8) (p2:Nat) (hs:Sl w A n c b) (hn:n≤140737488355000) (h0:readO b 0=(row,p1,0)) (hlen:p1 + 2≤n) (hf:b[p1]?=some f) (hg:b[p1 + 1]?=some g) (hg0:g.toNat ≠ 0) (h2:readO b ((p1 + 2:Nat):Int)=(qual,p2,0)) (hsh:n≤p2) :
  Calls Tryz.prog 155 #[.slice A n c] w (NoPost w):=by
 have HS:Hid (∀ x,Below w.heap.size w x→Sl x A n c b):=Lib.hid fun x h=>hs.later h
 have HX0:=Lib.hid (Bt.of (T:=5) (Bxs.two w 60 #[.slice none 0 0,.int .i64 0,.slice none 0 0,.int .i64 0,.int .i64 0,.int .i64 0,.slice none 0 0] #[.slice none 0 0,.int .i64 0,.slice none 0 0,.int .i64 0,.int .i64 0,.int .i64 0,.slice none 0 0]))
 have H0:=Lib.hid h0
 obtain ⟨bb,oo,_,rfl,hbb,_,_⟩:=hs.rb.at_ (k:=p1) (by omega)
 have HC:Hid (∀ (j:Nat) (u:UInt8) x,b[j]?=some u→Below w.heap.size w x→x.cell? ⟨bb,oo + j,none⟩=some (.int .u8 (u.toNat:Int))):=Lib.hid fun j u x hu hx=>(hs.rb.later hx).cell hu
 have hbb0:¬ bb=w.heap.size:=by omega
 have hbb1:¬ bb=w.heap.size + 1:=by omega
 have HF:=Lib.hid hf
 have HG:=Lib.hid hg
 have hgd:((g.toNat:Int) != 0)=true:=by rw [bne_iff_ne];omega
 have H2:=Lib.hid h2
 have q1:(p1:Int) < (n:Int):=by omega
 have q2:(p1:Int) + 1 < (n:Int):=by omega
 have q3:decide ((n:Int) < (p1:Int) + 2)=false:=decide_eq_false (by omega)
 have tO1:True:=trivial
 have tO2:True:=trivial
 clear hs h0 hf hg hg0 h2
 go_enter Tryz.func155,Tryz.ntmps155
 go_wp2_with (go_at_call 196;have _t:=tO1;go_must (refine (ro_any b (some ⟨bb,oo,none⟩) n c 0 _ (HS.out _ HX0.out.box.up) hn).mono ?_);rw [H0.out];rintro e x1 hp;obtain ⟨A1,c1,rfl,_,hO1,hb1⟩:=hp.at_ (n:=row.length) rfl rfl rfl;have HX1:=Lib.hid (HX0.out.fresh hb1 hO1);clear hb1 hp hO1 tO1;have z0:=HX1.out.box.c0 (i:=0) (v := .slice none 0 0) rfl rfl;have y0:=HX1.out.box.c1 (i:=0) (v := .slice none 0 0) rfl rfl;have z1:=HX1.out.box.c0 (i:=1) (v := .int .i64 0) rfl rfl;have y1:=HX1.out.box.c1 (i:=1) (v := .int .i64 0) rfl rfl;have z2:=HX1.out.box.c0 (i:=2) (v := .slice none 0 0) rfl rfl;have y2:=HX1.out.box.c1 (i:=2) (v := .slice none 0 0) rfl rfl;have z3:=HX1.out.box.c0 (i:=3) (v := .int .i64 0) rfl rfl;have y3:=HX1.out.box.c1 (i:=3) (v := .int .i64 0) rfl rfl;have z4:=HX1.out.box.c0 (i:=4) (v := .int .i64 0) rfl rfl;have y4:=HX1.out.box.c1 (i:=4) (v := .int .i64 0) rfl rfl;have z5:=HX1.out.box.c0 (i:=5) (v := .int .i64 0) rfl rfl;have y5:=HX1.out.box.c1 (i:=5) (v := .int .i64 0) rfl rfl;have z6:=HX1.out.box.c0 (i:=6) (v := .slice none 0 0) rfl rfl;have y6:=HX1.out.box.c1 (i:=6) (v := .slice none 0 0) rfl rfl;have fz:=HX1.out.box.f0 rfl;have fy:=HX1.out.box.f1 rfl;have g1:=HC.out p1 f _ HF.out HX1.out.box.up;have g2:=HC.out (p1 + 1) g _ HG.out HX1.out.box.up)
 go_region
 rw [show wrap64 ((f.toNat:Nat):Int)=(f.toNat:Int) from wrap64_id (by omega) (by have:=f.toNat_lt;omega)]
 go_wp2_with (first
  | (go_at_call 196;have _t:=tO2;go_must (refine (ro_any b (some ⟨bb,oo,none⟩) n c _ _ (HS.out _ ((HX1.out.s1_0 (.slice A1 row.length c1)).s1_1 (.int .i64 (f.toNat:Int))).drew.box.up) hn).mono ?_);rw [show ((p1:Int) + 2)=((p1 + 2:Nat):Int) from by omega,H2.out];rintro e x2 hp;obtain ⟨A2,c2,rfl,_,hO2,hb2⟩:=hp.at_ (n:=qual.length) rfl rfl rfl;have HX2:=Lib.hid (((HX1.out.s1_0 (.slice A1 row.length c1)).s1_1 (.int .i64 (f.toNat:Int))).drew.fresh hb2 hO2);clear hb2 hp hO2 tO2 g1 g2;clear z0 y0 z1 y1 z2 y2 z3 y3 z4 y4 z5 y5 z6 y6 fz fy;have z0:=HX2.out.box.c0 (i:=0) (v := .slice none 0 0) rfl rfl;have y0:=HX2.out.box.c1 (i:=0) (v := .slice A1 row.length c1) rfl rfl;have z1:=HX2.out.box.c0 (i:=1) (v := .int .i64 0) rfl rfl;have y1:=HX2.out.box.c1 (i:=1) (v := .int .i64 (f.toNat:Int)) rfl rfl;have z2:=HX2.out.box.c0 (i:=2) (v := .slice none 0 0) rfl rfl;have y2:=HX2.out.box.c1 (i:=2) (v := .slice none 0 0) rfl rfl;have z3:=HX2.out.box.c0 (i:=3) (v := .int .i64 0) rfl rfl;have y3:=HX2.out.box.c1 (i:=3) (v := .int .i64 0) rfl rfl;have z4:=HX2.out.box.c0 (i:=4) (v := .int .i64 0) rfl rfl;have y4:=HX2.out.box.c1 (i:=4) (v := .int .i64 0) rfl rfl;have z5:=HX2.out.box.c0 (i:=5) (v := .int .i64 0) rfl rfl;have y5:=HX2.out.box.c1 (i:=5) (v := .int .i64 0) rfl rfl;have z6:=HX2.out.box.c0 (i:=6) (v := .slice none 0 0) rfl rfl;have y6:=HX2.out.box.c1 (i:=6) (v := .slice none 0 0) rfl rfl;have fz:=HX2.out.box.f0 rfl;have fy:=HX2.out.box.f1 rfl))
 (try simp only [Exit.inBlock,Exit.then])
 have HR:=Lib.hid ((HX2.out.fill7 rfl (.slice A1 row.length c1) (.int .i64 (f.toNat:Int)) (.slice none 0 0) (.int .i64 0) (.int .i64 0) (.int .i64 0) (.slice none 0 0)))
 refine bodyPost_ret (results_box1 rfl _ _ w.heap.size _ rfl (HR.out.box.cells0 rfl) (by kernel_rfl) (by kernel_rfl)) rfl ?_
 exact ⟨⟨_,_,_,_,_,_,_,_,_,_,rfl⟩,HR.out.box.up⟩
set_option maxRecDepth 100000 in
set_option maxHeartbeats 2000000 in
theorem pa_P_f3 (b:List UInt8) (A:Option Addr) (n c:Nat) (w:World) (row:List UInt8) (p1:Nat) (f g:UInt8) (qual:List UInt8) (p2:Nat) (t p3 er:Nat) (hs:Sl w A n c b) (hn:n≤140737488355000) (h0:readO b 0=(row,p1,0)) (hlen:p1 + 2≤n) (hf:b[p1]?=some f) (hg:b[p1 + 1]?=some g) (hg0:g.toNat ≠ 0) (h2:readO b ((p1 + 2:Nat):Int)=(qual,p2,0)) (hlen2:p2 < n) (h3:readFl b (((p2 + 1):Nat):Int)=(t,p3,er)) (he:er ≠ 0) :
  Calls Tryz.prog 155 #[.slice A n c] w (NoPost w):=by
 have HS:Hid (∀ x,Below w.heap.size w x→Sl x A n c b):=Lib.hid fun x h=>hs.later h
 have HX0:=Lib.hid (Bt.of (T:=5) (Bxs.two w 60 #[.slice none 0 0,.int .i64 0,.slice none 0 0,.int .i64 0,.int .i64 0,.int .i64 0,.slice none 0 0] #[.slice none 0 0,.int .i64 0,.slice none 0 0,.int .i64 0,.int .i64 0,.int .i64 0,.slice none 0 0]))
 have H0:=Lib.hid h0
 obtain ⟨bb,oo,_,rfl,hbb,_,_⟩:=hs.rb.at_ (k:=p1) (by omega)
 have HC:Hid (∀ (j:Nat) (u:UInt8) x,b[j]?=some u→Below w.heap.size w x→x.cell? ⟨bb,oo + j,none⟩=some (.int .u8 (u.toNat:Int))):=Lib.hid fun j u x hu hx=>(hs.rb.later hx).cell hu
 have hbb0:¬ bb=w.heap.size:=by omega
 have hbb1:¬ bb=w.heap.size + 1:=by omega
 have HF:=Lib.hid hf
 have HG:=Lib.hid hg
 have hgd:((g.toNat:Int) != 0)=true:=by rw [bne_iff_ne];omega
 have H2:=Lib.hid h2
 have H3:=Lib.hid h3
 have hd:((er:Int) != 0)=true:=by rw [bne_iff_ne];omega
 have q1:(p1:Int) < (n:Int):=by omega
 have q2:(p1:Int) + 1 < (n:Int):=by omega
 have q3:decide ((n:Int) < (p1:Int) + 2)=false:=decide_eq_false (by omega)
 have q4:(p2:Int) < (n:Int):=by omega
 have tO1:True:=trivial
 have tO2:True:=trivial
 have tF1:True:=trivial
 clear hs h0 hf hg hg0 h2 h3 he
 go_enter Tryz.func155,Tryz.ntmps155
 go_wp2_with (go_at_call 196;have _t:=tO1;go_must (refine (ro_any b (some ⟨bb,oo,none⟩) n c 0 _ (HS.out _ HX0.out.box.up) hn).mono ?_);rw [H0.out];rintro e x1 hp;obtain ⟨A1,c1,rfl,_,hO1,hb1⟩:=hp.at_ (n:=row.length) rfl rfl rfl;have HX1:=Lib.hid (HX0.out.fresh hb1 hO1);clear hb1 hp hO1 tO1;have z0:=HX1.out.box.c0 (i:=0) (v := .slice none 0 0) rfl rfl;have y0:=HX1.out.box.c1 (i:=0) (v := .slice none 0 0) rfl rfl;have z1:=HX1.out.box.c0 (i:=1) (v := .int .i64 0) rfl rfl;have y1:=HX1.out.box.c1 (i:=1) (v := .int .i64 0) rfl rfl;have z2:=HX1.out.box.c0 (i:=2) (v := .slice none 0 0) rfl rfl;have y2:=HX1.out.box.c1 (i:=2) (v := .slice none 0 0) rfl rfl;have z3:=HX1.out.box.c0 (i:=3) (v := .int .i64 0) rfl rfl;have y3:=HX1.out.box.c1 (i:=3) (v := .int .i64 0) rfl rfl;have z4:=HX1.out.box.c0 (i:=4) (v := .int .i64 0) rfl rfl;have y4:=HX1.out.box.c1 (i:=4) (v := .int .i64 0) rfl rfl;have z5:=HX1.out.box.c0 (i:=5) (v := .int .i64 0) rfl rfl;have y5:=HX1.out.box.c1 (i:=5) (v := .int .i64 0) rfl rfl;have z6:=HX1.out.box.c0 (i:=6) (v := .slice none 0 0) rfl rfl;have y6:=HX1.out.box.c1 (i:=6) (v := .slice none 0 0) rfl rfl;have fz:=HX1.out.box.f0 rfl;have fy:=HX1.out.box.f1 rfl;have g1:=HC.out p1 f _ HF.out HX1.out.box.up;have g2:=HC.out (p1 + 1) g _ HG.out HX1.out.box.up)
 go_region
 rw [show wrap64 ((f.toNat:Nat):Int)=(f.toNat:Int) from wrap64_id (by omega) (by have:=f.toNat_lt;omega)]
 go_wp2_with (first
  | (go_at_call 196;have _t:=tO2;go_must (refine (ro_any b (some ⟨bb,oo,none⟩) n c _ _ (HS.out _ ((HX1.out.s1_0 (.slice A1 row.length c1)).s1_1 (.int .i64 (f.toNat:Int))).drew.box.up) hn).mono ?_);rw [show ((p1:Int) + 2)=((p1 + 2:Nat):Int) from by omega,H2.out];rintro e x2 hp;obtain ⟨A2,c2,rfl,_,hO2,hb2⟩:=hp.at_ (n:=qual.length) rfl rfl rfl;have HX2:=Lib.hid (((HX1.out.s1_0 (.slice A1 row.length c1)).s1_1 (.int .i64 (f.toNat:Int))).drew.fresh hb2 hO2);clear hb2 hp hO2 tO2 g1 g2;clear z0 y0 z1 y1 z2 y2 z3 y3 z4 y4 z5 y5 z6 y6 fz fy;have z0:=HX2.out.box.c0 (i:=0) (v := .slice none 0 0) rfl rfl;have y0:=HX2.out.box.c1 (i:=0) (v := .slice A1 row.length c1) rfl rfl;have z1:=HX2.out.box.c0 (i:=1) (v := .int .i64 0) rfl rfl;have y1:=HX2.out.box.c1 (i:=1) (v := .int .i64 (f.toNat:Int)) rfl rfl;have z2:=HX2.out.box.c0 (i:=2) (v := .slice none 0 0) rfl rfl;have y2:=HX2.out.box.c1 (i:=2) (v := .slice none 0 0) rfl rfl;have z3:=HX2.out.box.c0 (i:=3) (v := .int .i64 0) rfl rfl;have y3:=HX2.out.box.c1 (i:=3) (v := .int .i64 0) rfl rfl;have z4:=HX2.out.box.c0 (i:=4) (v := .int .i64 0) rfl rfl;have y4:=HX2.out.box.c1 (i:=4) (v := .int .i64 0) rfl rfl;have z5:=HX2.out.box.c0 (i:=5) (v := .int .i64 0) rfl rfl;have y5:=HX2.out.box.c1 (i:=5) (v := .int .i64 0) rfl rfl;have z6:=HX2.out.box.c0 (i:=6) (v := .slice none 0 0) rfl rfl;have y6:=HX2.out.box.c1 (i:=6) (v := .slice none 0 0) rfl rfl;have fz:=HX2.out.box.f0 rfl;have fy:=HX2.out.box.f1 rfl)
  | (go_at_call 197;have _t:=tF1;go_must (refine (rfl_any b (some ⟨bb,oo,none⟩) n c _ _ (HS.out _ (HX2.out.s1_2 (.slice A2 qual.length c2)).box.up) hn).mono ?_);rw [show ((p2:Int) + 1)=((p2 + 1:Nat):Int) from by omega,H3.out];rintro e x3 ⟨rfl,rfl⟩;clear tF1))
 (try simp only [Exit.inBlock,Exit.then])
 have HR:=Lib.hid ((((HX2.out.s1_2 (.slice A2 qual.length c2)).s1_3 (.int .i64 (t:Int))).fill7 rfl (.slice A1 row.length c1) (.int .i64 (f.toNat:Int)) (.slice A2 qual.length c2) (.int .i64 (t:Int)) (.int .i64 0) (.int .i64 0) (.slice none 0 0)))
 refine bodyPost_ret (results_box1 rfl _ _ w.heap.size _ rfl (HR.out.box.cells0 rfl) (by kernel_rfl) (by kernel_rfl)) rfl ?_
 exact ⟨⟨_,_,_,_,_,_,_,_,_,_,rfl⟩,HR.out.box.up⟩
set_option maxRecDepth 100000 in
set_option maxHeartbeats 2000000 in
theorem pa_P_f4a (b:List UInt8) (A:Option Addr) (n c:Nat) (w:World) (row:List UInt8) (p1:Nat) (f g:UInt8) (qual:List UInt8) (p2:Nat) (t p3:Nat) (s p4 er:Nat) (hs:Sl w A n c b) (hn:n≤140737488355000) (h0:readO b 0=(row,p1,0)) (hlen:p1 + 2≤n) (hf:b[p1]?=some f) (hg:b[p1 + 1]?=some g) (hg0:g.toNat ≠ 0) (h2:readO b ((p1 + 2:Nat):Int)=(qual,p2,0)) (hlen2:p2 < n) (h3:readFl b (((p2 + 1):Nat):Int)=(t,p3,0)) (h4:readFl b (p3:Int)=(s,p4,er)) (he:er ≠ 0) :
  Calls Tryz.prog 155 #[.slice A n c] w (NoPost w):=by
 have HS:Hid (∀ x,Below w.heap.size w x→Sl x A n c b):=Lib.hid fun x h=>hs.later h
 have HX0:=Lib.hid (Bt.of (T:=5) (Bxs.two w 60 #[.slice none 0 0,.int .i64 0,.slice none 0 0,.int .i64 0,.int .i64 0,.int .i64 0,.slice none 0 0] #[.slice none 0 0,.int .i64 0,.slice none 0 0,.int .i64 0,.int .i64 0,.int .i64 0,.slice none 0 0]))
 have H0:=Lib.hid h0
 obtain ⟨bb,oo,_,rfl,hbb,_,_⟩:=hs.rb.at_ (k:=p1) (by omega)
 have HC:Hid (∀ (j:Nat) (u:UInt8) x,b[j]?=some u→Below w.heap.size w x→x.cell? ⟨bb,oo + j,none⟩=some (.int .u8 (u.toNat:Int))):=Lib.hid fun j u x hu hx=>(hs.rb.later hx).cell hu
 have hbb0:¬ bb=w.heap.size:=by omega
 have hbb1:¬ bb=w.heap.size + 1:=by omega
 have HF:=Lib.hid hf
 have HG:=Lib.hid hg
 have hgd:((g.toNat:Int) != 0)=true:=by rw [bne_iff_ne];omega
 have H2:=Lib.hid h2
 have H3:=Lib.hid h3
 have H4:=Lib.hid h4
 have hd:((er:Int) != 0)=true:=by rw [bne_iff_ne];omega
 have q1:(p1:Int) < (n:Int):=by omega
 have q2:(p1:Int) + 1 < (n:Int):=by omega
 have q3:decide ((n:Int) < (p1:Int) + 2)=false:=decide_eq_false (by omega)
 have q4:(p2:Int) < (n:Int):=by omega
 have tO1:True:=trivial
 have tO2:True:=trivial
 have tF1:True:=trivial
 clear hs h0 hf hg hg0 h2 h3 h4 he
 go_enter Tryz.func155,Tryz.ntmps155
 go_wp2_with (go_at_call 196;have _t:=tO1;go_must (refine (ro_any b (some ⟨bb,oo,none⟩) n c 0 _ (HS.out _ HX0.out.box.up) hn).mono ?_);rw [H0.out];rintro e x1 hp;obtain ⟨A1,c1,rfl,_,hO1,hb1⟩:=hp.at_ (n:=row.length) rfl rfl rfl;have HX1:=Lib.hid (HX0.out.fresh hb1 hO1);clear hb1 hp hO1 tO1;have z0:=HX1.out.box.c0 (i:=0) (v := .slice none 0 0) rfl rfl;have y0:=HX1.out.box.c1 (i:=0) (v := .slice none 0 0) rfl rfl;have z1:=HX1.out.box.c0 (i:=1) (v := .int .i64 0) rfl rfl;have y1:=HX1.out.box.c1 (i:=1) (v := .int .i64 0) rfl rfl;have z2:=HX1.out.box.c0 (i:=2) (v := .slice none 0 0) rfl rfl;have y2:=HX1.out.box.c1 (i:=2) (v := .slice none 0 0) rfl rfl;have z3:=HX1.out.box.c0 (i:=3) (v := .int .i64 0) rfl rfl;have y3:=HX1.out.box.c1 (i:=3) (v := .int .i64 0) rfl rfl;have z4:=HX1.out.box.c0 (i:=4) (v := .int .i64 0) rfl rfl;have y4:=HX1.out.box.c1 (i:=4) (v := .int .i64 0) rfl rfl;have z5:=HX1.out.box.c0 (i:=5) (v := .int .i64 0) rfl rfl;have y5:=HX1.out.box.c1 (i:=5) (v := .int .i64 0) rfl rfl;have z6:=HX1.out.box.c0 (i:=6) (v := .slice none 0 0) rfl rfl;have y6:=HX1.out.box.c1 (i:=6) (v := .slice none 0 0) rfl rfl;have fz:=HX1.out.box.f0 rfl;have fy:=HX1.out.box.f1 rfl;have g1:=HC.out p1 f _ HF.out HX1.out.box.up;have g2:=HC.out (p1 + 1) g _ HG.out HX1.out.box.up)
 go_region
 rw [show wrap64 ((f.toNat:Nat):Int)=(f.toNat:Int) from wrap64_id (by omega) (by have:=f.toNat_lt;omega)]
 go_wp2_with (first
  | (go_at_call 196;have _t:=tO2;go_must (refine (ro_any b (some ⟨bb,oo,none⟩) n c _ _ (HS.out _ ((HX1.out.s1_0 (.slice A1 row.length c1)).s1_1 (.int .i64 (f.toNat:Int))).drew.box.up) hn).mono ?_);rw [show ((p1:Int) + 2)=((p1 + 2:Nat):Int) from by omega,H2.out];rintro e x2 hp;obtain ⟨A2,c2,rfl,_,hO2,hb2⟩:=hp.at_ (n:=qual.length) rfl rfl rfl;have HX2:=Lib.hid (((HX1.out.s1_0 (.slice A1 row.length c1)).s1_1 (.int .i64 (f.toNat:Int))).drew.fresh hb2 hO2);clear hb2 hp hO2 tO2 g1 g2;clear z0 y0 z1 y1 z2 y2 z3 y3 z4 y4 z5 y5 z6 y6 fz fy;have z0:=HX2.out.box.c0 (i:=0) (v := .slice none 0 0) rfl rfl;have y0:=HX2.out.box.c1 (i:=0) (v := .slice A1 row.length c1) rfl rfl;have z1:=HX2.out.box.c0 (i:=1) (v := .int .i64 0) rfl rfl;have y1:=HX2.out.box.c1 (i:=1) (v := .int .i64 (f.toNat:Int)) rfl rfl;have z2:=HX2.out.box.c0 (i:=2) (v := .slice none 0 0) rfl rfl;have y2:=HX2.out.box.c1 (i:=2) (v := .slice none 0 0) rfl rfl;have z3:=HX2.out.box.c0 (i:=3) (v := .int .i64 0) rfl rfl;have y3:=HX2.out.box.c1 (i:=3) (v := .int .i64 0) rfl rfl;have z4:=HX2.out.box.c0 (i:=4) (v := .int .i64 0) rfl rfl;have y4:=HX2.out.box.c1 (i:=4) (v := .int .i64 0) rfl rfl;have z5:=HX2.out.box.c0 (i:=5) (v := .int .i64 0) rfl rfl;have y5:=HX2.out.box.c1 (i:=5) (v := .int .i64 0) rfl rfl;have z6:=HX2.out.box.c0 (i:=6) (v := .slice none 0 0) rfl rfl;have y6:=HX2.out.box.c1 (i:=6) (v := .slice none 0 0) rfl rfl;have fz:=HX2.out.box.f0 rfl;have fy:=HX2.out.box.f1 rfl)
  | (go_at_call 197;have _t:=tF1;go_must (refine (rfl_any b (some ⟨bb,oo,none⟩) n c _ _ (HS.out _ (HX2.out.s1_2 (.slice A2 qual.length c2)).box.up) hn).mono ?_);rw [show ((p2:Int) + 1)=((p2 + 1:Nat):Int) from by omega,H3.out];rintro e x3 ⟨rfl,rfl⟩;clear tF1)
  | (go_at_call 197;go_must (refine (rfl_any b (some ⟨bb,oo,none⟩) n c _ _ (HS.out _ ((HX2.out.s1_2 (.slice A2 qual.length c2)).s1_3 (.int .i64 (t:Int))).box.up) hn).mono ?_);rw [H4.out];rintro e x4 ⟨rfl,rfl⟩))
 (try simp only [Exit.inBlock,Exit.then])
 have HR:=Lib.hid (((((HX2.out.s1_2 (.slice A2 qual.length c2)).s1_3 (.int .i64 (t:Int))).s1_4 (.int .i64 (s:Int))).fill7 rfl (.slice A1 row.length c1) (.int .i64 (f.toNat:Int)) (.slice A2 qual.length c2) (.int .i64 (t:Int)) (.int .i64 (s:Int)) (.int .i64 0) (.slice none 0 0)))
 refine bodyPost_ret (results_box1 rfl _ _ w.heap.size _ rfl (HR.out.box.cells0 rfl) (by kernel_rfl) (by kernel_rfl)) rfl ?_
 exact ⟨⟨_,_,_,_,_,_,_,_,_,_,rfl⟩,HR.out.box.up⟩
set_option maxRecDepth 100000 in
set_option maxHeartbeats 2000000 in
theorem pa_P_f4b (b:List UInt8) (A:Option Addr) (n c:Nat) (w:World) (row:List UInt8) (p1:Nat) (f g:UInt8) (qual:List UInt8) (p2:Nat) (t p3:Nat) (s p4:Nat) (hs:Sl w A n c b) (hn:n≤140737488355000) (h0:readO b 0=(row,p1,0)) (hlen:p1 + 2≤n) (hf:b[p1]?=some f) (hg:b[p1 + 1]?=some g) (hg0:g.toNat ≠ 0) (h2:readO b ((p1 + 2:Nat):Int)=(qual,p2,0)) (hlen2:p2 < n) (h3:readFl b (((p2 + 1):Nat):Int)=(t,p3,0)) (h4:readFl b (p3:Int)=(s,p4,0)) (hsh:n≤p4) :
  Calls Tryz.prog 155 #[.slice A n c] w (NoPost w):=by
 have HS:Hid (∀ x,Below w.heap.size w x→Sl x A n c b):=Lib.hid fun x h=>hs.later h
 have HX0:=Lib.hid (Bt.of (T:=5) (Bxs.two w 60 #[.slice none 0 0,.int .i64 0,.slice none 0 0,.int .i64 0,.int .i64 0,.int .i64 0,.slice none 0 0] #[.slice none 0 0,.int .i64 0,.slice none 0 0,.int .i64 0,.int .i64 0,.int .i64 0,.slice none 0 0]))
 have H0:=Lib.hid h0
 obtain ⟨bb,oo,_,rfl,hbb,_,_⟩:=hs.rb.at_ (k:=p1) (by omega)
 have HC:Hid (∀ (j:Nat) (u:UInt8) x,b[j]?=some u→Below w.heap.size w x→x.cell? ⟨bb,oo + j,none⟩=some (.int .u8 (u.toNat:Int))):=Lib.hid fun j u x hu hx=>(hs.rb.later hx).cell hu
 have hbb0:¬ bb=w.heap.size:=by omega
 have hbb1:¬ bb=w.heap.size + 1:=by omega
 have HF:=Lib.hid hf
 have HG:=Lib.hid hg
 have hgd:((g.toNat:Int) != 0)=true:=by rw [bne_iff_ne];omega
 have H2:=Lib.hid h2
 have H3:=Lib.hid h3
 have H4:=Lib.hid h4
 have q1:(p1:Int) < (n:Int):=by omega
 have q2:(p1:Int) + 1 < (n:Int):=by omega
 have q3:decide ((n:Int) < (p1:Int) + 2)=false:=decide_eq_false (by omega)
 have q4:(p2:Int) < (n:Int):=by omega
 have tO1:True:=trivial
 have tO2:True:=trivial
 have tF1:True:=trivial
 clear hs h0 hf hg hg0 h2 h3 h4
 go_enter Tryz.func155,Tryz.ntmps155
 go_wp2_with (go_at_call 196;have _t:=tO1;go_must (refine (ro_any b (some ⟨bb,oo,none⟩) n c 0 _ (HS.out _ HX0.out.box.up) hn).mono ?_);rw [H0.out];rintro e x1 hp;obtain ⟨A1,c1,rfl,_,hO1,hb1⟩:=hp.at_ (n:=row.length) rfl rfl rfl;have HX1:=Lib.hid (HX0.out.fresh hb1 hO1);clear hb1 hp hO1 tO1;have z0:=HX1.out.box.c0 (i:=0) (v := .slice none 0 0) rfl rfl;have y0:=HX1.out.box.c1 (i:=0) (v := .slice none 0 0) rfl rfl;have z1:=HX1.out.box.c0 (i:=1) (v := .int .i64 0) rfl rfl;have y1:=HX1.out.box.c1 (i:=1) (v := .int .i64 0) rfl rfl;have z2:=HX1.out.box.c0 (i:=2) (v := .slice none 0 0) rfl rfl;have y2:=HX1.out.box.c1 (i:=2) (v := .slice none 0 0) rfl rfl;have z3:=HX1.out.box.c0 (i:=3) (v := .int .i64 0) rfl rfl;have y3:=HX1.out.box.c1 (i:=3) (v := .int .i64 0) rfl rfl;have z4:=HX1.out.box.c0 (i:=4) (v := .int .i64 0) rfl rfl;have y4:=HX1.out.box.c1 (i:=4) (v := .int .i64 0) rfl rfl;have z5:=HX1.out.box.c0 (i:=5) (v := .int .i64 0) rfl rfl;have y5:=HX1.out.box.c1 (i:=5) (v := .int .i64 0) rfl rfl;have z6:=HX1.out.box.c0 (i:=6) (v := .slice none 0 0) rfl rfl;have y6:=HX1.out.box.c1 (i:=6) (v := .slice none 0 0) rfl rfl;have fz:=HX1.out.box.f0 rfl;have fy:=HX1.out.box.f1 rfl;have g1:=HC.out p1 f _ HF.out HX1.out.box.up;have g2:=HC.out (p1 + 1) g _ HG.out HX1.out.box.up)
 go_region
 rw [show wrap64 ((f.toNat:Nat):Int)=(f.toNat:Int) from wrap64_id (by omega) (by have:=f.toNat_lt;omega)]
 go_wp2_with (first
  | (go_at_call 196;have _t:=tO2;go_must (refine (ro_any b (some ⟨bb,oo,none⟩) n c _ _ (HS.out _ ((HX1.out.s1_0 (.slice A1 row.length c1)).s1_1 (.int .i64 (f.toNat:Int))).drew.box.up) hn).mono ?_);rw [show ((p1:Int) + 2)=((p1 + 2:Nat):Int) from by omega,H2.out];rintro e x2 hp;obtain ⟨A2,c2,rfl,_,hO2,hb2⟩:=hp.at_ (n:=qual.length) rfl rfl rfl;have HX2:=Lib.hid (((HX1.out.s1_0 (.slice A1 row.length c1)).s1_1 (.int .i64 (f.toNat:Int))).drew.fresh hb2 hO2);clear hb2 hp hO2 tO2 g1 g2;clear z0 y0 z1 y1 z2 y2 z3 y3 z4 y4 z5 y5 z6 y6 fz fy;have z0:=HX2.out.box.c0 (i:=0) (v := .slice none 0 0) rfl rfl;have y0:=HX2.out.box.c1 (i:=0) (v := .slice A1 row.length c1) rfl rfl;have z1:=HX2.out.box.c0 (i:=1) (v := .int .i64 0) rfl rfl;have y1:=HX2.out.box.c1 (i:=1) (v := .int .i64 (f.toNat:Int)) rfl rfl;have z2:=HX2.out.box.c0 (i:=2) (v := .slice none 0 0) rfl rfl;have y2:=HX2.out.box.c1 (i:=2) (v := .slice none 0 0) rfl rfl;have z3:=HX2.out.box.c0 (i:=3) (v := .int .i64 0) rfl rfl;have y3:=HX2.out.box.c1 (i:=3) (v := .int .i64 0) rfl rfl;have z4:=HX2.out.box.c0 (i:=4) (v := .int .i64 0) rfl rfl;have y4:=HX2.out.box.c1 (i:=4) (v := .int .i64 0) rfl rfl;have z5:=HX2.out.box.c0 (i:=5) (v := .int .i64 0) rfl rfl;have y5:=HX2.out.box.c1 (i:=5) (v := .int .i64 0) rfl rfl;have z6:=HX2.out.box.c0 (i:=6) (v := .slice none 0 0) rfl rfl;have y6:=HX2.out.box.c1 (i:=6) (v := .slice none 0 0) rfl rfl;have fz:=HX2.out.box.f0 rfl;have fy:=HX2.out.box.f1 rfl)
  | (go_at_call 197;have _t:=tF1;go_must (refine (rfl_any b (some ⟨bb,oo,none⟩) n c _ _ (HS.out _ (HX2.out.s1_2 (.slice A2 qual.length c2)).box.up) hn).mono ?_);rw [show ((p2:Int) + 1)=((p2 + 1:Nat):Int) from by omega,H3.out];rintro e x3 ⟨rfl,rfl⟩;clear tF1)
  | (go_at_call 197;go_must (refine (rfl_any b (some ⟨bb,oo,none⟩) n c _ _ (HS.out _ ((HX2.out.s1_2 (.slice A2 qual.length c2)).s1_3 (.int .i64 (t:Int))).box.up) hn).mono ?_);rw [H4.out];rintro e x4 ⟨rfl,rfl⟩))
 (try simp only [Exit.inBlock,Exit.then])
 have HR:=Lib.hid (((((HX2.out.s1_2 (.slice A2 qual.length c2)).s1_3 (.int .i64 (t:Int))).s1_4 (.int .i64 (s:Int))).fill7 rfl (.slice A1 row.length c1) (.int .i64 (f.toNat:Int)) (.slice A2 qual.length c2) (.int .i64 (t:Int)) (.int .i64 (s:Int)) (.int .i64 0) (.slice none 0 0)))
 refine bodyPost_ret (results_box1 rfl _ _ w.heap.size _ rfl (HR.out.box.cells0 rfl) (by kernel_rfl) (by kernel_rfl)) rfl ?_
 exact ⟨⟨_,_,_,_,_,_,_,_,_,_,rfl⟩,HR.out.box.up⟩
set_option maxRecDepth 100000 in
set_option maxHeartbeats 2000000 in
theorem pa_P_ok (b:List UInt8) (A:Option Addr) (n c:Nat) (w:World) (row:List UInt8) (p1:Nat) (f g:UInt8) (qual:List UInt8) (p2:Nat) (t p3:Nat) (s p4:Nat) (k:UInt8) (hs:Sl w A n c b) (hn:n≤140737488355000) (h0:readO b 0=(row,p1,0)) (hlen:p1 + 2≤n) (hf:b[p1]?=some f) (hg:b[p1 + 1]?=some g) (hg0:g.toNat ≠ 0) (h2:readO b ((p1 + 2:Nat):Int)=(qual,p2,0)) (hlen2:p2 < n) (h3:readFl b (((p2 + 1):Nat):Int)=(t,p3,0)) (h4:readFl b (p3:Int)=(s,p4,0)) (hlen4:p4 < n) (hk:b[p4]?=some k) :
  Calls Tryz.prog 155 #[.slice A n c] w (EntPost (fun v => .tuple #[v,.bool true]) ⟨row,(f.toNat:Int),qual,(t:Int),(s:Int),(k.toNat:Int),[]⟩ w):=by
 have HS:Hid (∀ x,Below w.heap.size w x→Sl x A n c b):=Lib.hid fun x h=>hs.later h
 have HX0:=Lib.hid (Bt.of (T:=5) (Bxs.two w 60 #[.slice none 0 0,.int .i64 0,.slice none 0 0,.int .i64 0,.int .i64 0,.int .i64 0,.slice none 0 0] #[.slice none 0 0,.int .i64 0,.slice none 0 0,.int .i64 0,.int .i64 0,.int .i64 0,.slice none 0 0]))
 have H0:=Lib.hid h0
 obtain ⟨bb,oo,_,rfl,hbb,_,_⟩:=hs.rb.at_ (k:=p1) (by omega)
 have HC:Hid (∀ (j:Nat) (u:UInt8) x,b[j]?=some u→Below w.heap.size w x→x.cell? ⟨bb,oo + j,none⟩=some (.int .u8 (u.toNat:Int))):=Lib.hid fun j u x hu hx=>(hs.rb.later hx).cell hu
 have hbb0:¬ bb=w.heap.size:=by omega
 have hbb1:¬ bb=w.heap.size + 1:=by omega
 have HF:=Lib.hid hf
 have HG:=Lib.hid hg
 have hgd:((g.toNat:Int) != 0)=true:=by rw [bne_iff_ne];omega
 have H2:=Lib.hid h2
 have H3:=Lib.hid h3
 have H4:=Lib.hid h4
 have HK:=Lib.hid hk
 have q1:(p1:Int) < (n:Int):=by omega
 have q2:(p1:Int) + 1 < (n:Int):=by omega
 have q3:decide ((n:Int) < (p1:Int) + 2)=false:=decide_eq_false (by omega)
 have q4:(p2:Int) < (n:Int):=by omega
 have q5:(p4:Int) < (n:Int):=by omega
 have q6:wrap64 ((k.toNat:Nat):Int)=(k.toNat:Int):=wrap64_id (by omega) (by have:=k.toNat_lt;omega)
 have q7:IntKind.i64.wrap ((k.toNat:Nat):Int)=(k.toNat:Int):=i64_sum (by omega) (by have:=k.toNat_lt;omega)
 have tO1:True:=trivial
 have tO2:True:=trivial
 have tF1:True:=trivial
 clear hs h0 hf hg hg0 h2 h3 h4 hk
 go_enter Tryz.func155,Tryz.ntmps155
 go_wp2_with (go_at_call 196;have _t:=tO1;go_must (refine (ro_any b (some ⟨bb,oo,none⟩) n c 0 _ (HS.out _ HX0.out.box.up) hn).mono ?_);rw [H0.out];rintro e x1 hp;obtain ⟨A1,c1,rfl,_,hO1,hb1⟩:=hp.at_ (n:=row.length) rfl rfl rfl;have HX1:=Lib.hid (HX0.out.fresh hb1 hO1);clear hb1 hp hO1 tO1;have z0:=HX1.out.box.c0 (i:=0) (v := .slice none 0 0) rfl rfl;have y0:=HX1.out.box.c1 (i:=0) (v := .slice none 0 0) rfl rfl;have z1:=HX1.out.box.c0 (i:=1) (v := .int .i64 0) rfl rfl;have y1:=HX1.out.box.c1 (i:=1) (v := .int .i64 0) rfl rfl;have z2:=HX1.out.box.c0 (i:=2) (v := .slice none 0 0) rfl rfl;have y2:=HX1.out.box.c1 (i:=2) (v := .slice none 0 0) rfl rfl;have z3:=HX1.out.box.c0 (i:=3) (v := .int .i64 0) rfl rfl;have y3:=HX1.out.box.c1 (i:=3) (v := .int .i64 0) rfl rfl;have z4:=HX1.out.box.c0 (i:=4) (v := .int .i64 0) rfl rfl;have y4:=HX1.out.box.c1 (i:=4) (v := .int .i64 0) rfl rfl;have z5:=HX1.out.box.c0 (i:=5) (v := .int .i64 0) rfl rfl;have y5:=HX1.out.box.c1 (i:=5) (v := .int .i64 0) rfl rfl;have z6:=HX1.out.box.c0 (i:=6) (v := .slice none 0 0) rfl rfl;have y6:=HX1.out.box.c1 (i:=6) (v := .slice none 0 0) rfl rfl;have fz:=HX1.out.box.f0 rfl;have fy:=HX1.out.box.f1 rfl;have g1:=HC.out p1 f _ HF.out HX1.out.box.up;have g2:=HC.out (p1 + 1) g _ HG.out HX1.out.box.up;have g3:=HC.out p4 k _ HK.out HX1.out.box.up)
 go_region
 rw [show wrap64 ((f.toNat:Nat):Int)=(f.toNat:Int) from wrap64_id (by omega) (by have:=f.toNat_lt;omega)]
 go_wp2_with (first
  | (go_at_call 196;have _t:=tO2;go_must (refine (ro_any b (some ⟨bb,oo,none⟩) n c _ _ (HS.out _ ((HX1.out.s1_0 (.slice A1 row.length c1)).s1_1 (.int .i64 (f.toNat:Int))).drew.box.up) hn).mono ?_);rw [show ((p1:Int) + 2)=((p1 + 2:Nat):Int) from by omega,H2.out];rintro e x2 hp;obtain ⟨A2,c2,rfl,_,hO2,hb2⟩:=hp.at_ (n:=qual.length) rfl rfl rfl;have HX2:=Lib.hid (((HX1.out.s1_0 (.slice A1 row.length c1)).s1_1 (.int .i64 (f.toNat:Int))).drew.fresh hb2 hO2);clear hb2 hp hO2 tO2 g1 g2 g3;clear z0 y0 z1 y1 z2 y2 z3 y3 z4 y4 z5 y5 z6 y6 fz fy;have z0:=HX2.out.box.c0 (i:=0) (v := .slice none 0 0) rfl rfl;have y0:=HX2.out.box.c1 (i:=0) (v := .slice A1 row.length c1) rfl rfl;have z1:=HX2.out.box.c0 (i:=1) (v := .int .i64 0) rfl rfl;have y1:=HX2.out.box.c1 (i:=1) (v := .int .i64 (f.toNat:Int)) rfl rfl;have z2:=HX2.out.box.c0 (i:=2) (v := .slice none 0 0) rfl rfl;have y2:=HX2.out.box.c1 (i:=2) (v := .slice none 0 0) rfl rfl;have z3:=HX2.out.box.c0 (i:=3) (v := .int .i64 0) rfl rfl;have y3:=HX2.out.box.c1 (i:=3) (v := .int .i64 0) rfl rfl;have z4:=HX2.out.box.c0 (i:=4) (v := .int .i64 0) rfl rfl;have y4:=HX2.out.box.c1 (i:=4) (v := .int .i64 0) rfl rfl;have z5:=HX2.out.box.c0 (i:=5) (v := .int .i64 0) rfl rfl;have y5:=HX2.out.box.c1 (i:=5) (v := .int .i64 0) rfl rfl;have z6:=HX2.out.box.c0 (i:=6) (v := .slice none 0 0) rfl rfl;have y6:=HX2.out.box.c1 (i:=6) (v := .slice none 0 0) rfl rfl;have fz:=HX2.out.box.f0 rfl;have fy:=HX2.out.box.f1 rfl;have g3:=HC.out p4 k _ HK.out HX2.out.box.up)
  | (go_at_call 197;have _t:=tF1;go_must (refine (rfl_any b (some ⟨bb,oo,none⟩) n c _ _ (HS.out _ (HX2.out.s1_2 (.slice A2 qual.length c2)).box.up) hn).mono ?_);rw [show ((p2:Int) + 1)=((p2 + 1:Nat):Int) from by omega,H3.out];rintro e x3 ⟨rfl,rfl⟩;clear tF1)
  | (go_at_call 197;go_must (refine (rfl_any b (some ⟨bb,oo,none⟩) n c _ _ (HS.out _ ((HX2.out.s1_2 (.slice A2 qual.length c2)).s1_3 (.int .i64 (t:Int))).box.up) hn).mono ?_);rw [H4.out];rintro e x4 ⟨rfl,rfl⟩))
 (try simp only [Exit.inBlock,Exit.then])
 have HR:=Lib.hid ((((((HX2.out.s1_2 (.slice A2 qual.length c2)).s1_3 (.int .i64 (t:Int))).s1_4 (.int .i64 (s:Int))).s1_5 (.int .i64 (k.toNat:Int))).fill7 rfl (.slice A1 row.length c1) (.int .i64 (f.toNat:Int)) (.slice A2 qual.length c2) (.int .i64 (t:Int)) (.int .i64 (s:Int)) (.int .i64 (k.toNat:Int)) (.slice none 0 0)))
 refine bodyPost_ret (results_box1 rfl _ _ w.heap.size _ rfl (HR.out.box.cells0 rfl) (by kernel_rfl) (by kernel_rfl)) rfl ?_
 exact ent_post (mk:=fun v => .tuple #[v,.bool true]) (rows_low HR.out.rows (Nat.le_add_right _ _)) HR.out.box.up
set_option maxRecDepth 100000 in
set_option maxHeartbeats 2000000 in
theorem pa_N_f3 (b:List UInt8) (A:Option Addr) (n c:Nat) (w:World) (row:List UInt8) (p1:Nat) (f g:UInt8) (t p3 er:Nat) (hs:Sl w A n c b) (hn:n≤140737488355000) (h0:readO b 0=(row,p1,0)) (hlen:p1 + 2≤n) (hf:b[p1]?=some f) (hg:b[p1 + 1]?=some g) (hg0:g.toNat=0) (h3:readFl b (((p1 + 2):Nat):Int)=(t,p3,er)) (he:er ≠ 0) :
  Calls Tryz.prog 155 #[.slice A n c] w (NoPost w):=by
 have HS:Hid (∀ x,Below w.heap.size w x→Sl x A n c b):=Lib.hid fun x h=>hs.later h
 have HX0:=Lib.hid (Bt.of (T:=5) (Bxs.two w 60 #[.slice none 0 0,.int .i64 0,.slice none 0 0,.int .i64 0,.int .i64 0,.int .i64 0,.slice none 0 0] #[.slice none 0 0,.int .i64 0,.slice none 0 0,.int .i64 0,.int .i64 0,.int .i64 0,.slice none 0 0]))
 have H0:=Lib.hid h0
 obtain ⟨bb,oo,_,rfl,hbb,_,_⟩:=hs.rb.at_ (k:=p1) (by omega)
 have HC:Hid (∀ (j:Nat) (u:UInt8) x,b[j]?=some u→Below w.heap.size w x→x.cell? ⟨bb,oo + j,none⟩=some (.int .u8 (u.toNat:Int))):=Lib.hid fun j u x hu hx=>(hs.rb.later hx).cell hu
 have hbb0:¬ bb=w.heap.size:=by omega
 have hbb1:¬ bb=w.heap.size + 1:=by omega
 have HF:=Lib.hid hf
 have HG:=Lib.hid hg
 have hgd:((g.toNat:Int) != 0)=false:=by rw [hg0];rfl
 have H3:=Lib.hid h3
 have hd:((er:Int) != 0)=true:=by rw [bne_iff_ne];omega
 have q1:(p1:Int) < (n:Int):=by omega
 have q2:(p1:Int) + 1 < (n:Int):=by omega
 have q3:decide ((n:Int) < (p1:Int) + 2)=false:=decide_eq_false (by omega)
 have tO1:True:=trivial
 have tF1:True:=trivial
 clear hs h0 hf hg hg0 h3 he
 go_enter Tryz.func155,Tryz.ntmps155
 go_wp2_with (go_at_call 196;have _t:=tO1;go_must (refine (ro_any b (some ⟨bb,oo,none⟩) n c 0 _ (HS.out _ HX0.out.box.up) hn).mono ?_);rw [H0.out];rintro e x1 hp;obtain ⟨A1,c1,rfl,_,hO1,hb1⟩:=hp.at_ (n:=row.length) rfl rfl rfl;have HX1:=Lib.hid (HX0.out.fresh hb1 hO1);clear hb1 hp hO1 tO1;have z0:=HX1.out.box.c0 (i:=0) (v := .slice none 0 0) rfl rfl;have y0:=HX1.out.box.c1 (i:=0) (v := .slice none 0 0) rfl rfl;have z1:=HX1.out.box.c0 (i:=1) (v := .int .i64 0) rfl rfl;have y1:=HX1.out.box.c1 (i:=1) (v := .int .i64 0) rfl rfl;have z2:=HX1.out.box.c0 (i:=2) (v := .slice none 0 0) rfl rfl;have y2:=HX1.out.box.c1 (i:=2) (v := .slice none 0 0) rfl rfl;have z3:=HX1.out.box.c0 (i:=3) (v := .int .i64 0) rfl rfl;have y3:=HX1.out.box.c1 (i:=3) (v := .int .i64 0) rfl rfl;have z4:=HX1.out.box.c0 (i:=4) (v := .int .i64 0) rfl rfl;have y4:=HX1.out.box.c1 (i:=4) (v := .int .i64 0) rfl rfl;have z5:=HX1.out.box.c0 (i:=5) (v := .int .i64 0) rfl rfl;have y5:=HX1.out.box.c1 (i:=5) (v := .int .i64 0) rfl rfl;have z6:=HX1.out.box.c0 (i:=6) (v := .slice none 0 0) rfl rfl;have y6:=HX1.out.box.c1 (i:=6) (v := .slice none 0 0) rfl rfl;have fz:=HX1.out.box.f0 rfl;have fy:=HX1.out.box.f1 rfl;have g1:=HC.out p1 f _ HF.out HX1.out.box.up;have g2:=HC.out (p1 + 1) g _ HG.out HX1.out.box.up)
 go_region
 rw [show wrap64 ((f.toNat:Nat):Int)=(f.toNat:Int) from wrap64_id (by omega) (by have:=f.toNat_lt;omega)]
 go_wp2_with (first
  | (go_at_call 197;have _t:=tF1;go_must (refine (rfl_any b (some ⟨bb,oo,none⟩) n c _ _ (HS.out _ ((HX1.out.s1_0 (.slice A1 row.length c1)).s1_1 (.int .i64 (f.toNat:Int))).drew.box.up) hn).mono ?_);rw [show ((p1:Int) + 2)=((p1 + 2:Nat):Int) from by omega,H3.out];rintro e x3 ⟨rfl,rfl⟩;clear tF1))
 (try simp only [Exit.inBlock,Exit.then])
 have HR:=Lib.hid (((((HX1.out.s1_0 (.slice A1 row.length c1)).s1_1 (.int .i64 (f.toNat:Int))).s1_3 (.int .i64 (t:Int))).fill7 rfl (.slice A1 row.length c1) (.int .i64 (f.toNat:Int)) (.slice none 0 0) (.int .i64 (t:Int)) (.int .i64 0) (.int .i64 0) (.slice none 0 0)).drew)
 refine bodyPost_ret (results_box1 rfl _ _ w.heap.size _ rfl (HR.out.box.cells0 rfl) (by kernel_rfl) (by kernel_rfl)) rfl ?_
 exact ⟨⟨_,_,_,_,_,_,_,_,_,_,rfl⟩,HR.out.box.up⟩
set_option maxRecDepth 100000 in
set_option maxHeartbeats 2000000 in
theorem pa_N_f4a (b:List UInt8) (A:Option Addr) (n c:Nat) (w:World) (row:List UInt8) (p1:Nat) (f g:UInt8) (t p3:Nat) (s p4 er:Nat) (hs:Sl w A n c b) (hn:n≤140737488355000) (h0:readO b 0=(row,p1,0)) (hlen:p1 + 2≤n) (hf:b[p1]?=some f) (hg:b[p1 + 1]?=some g) (hg0:g.toNat=0) (h3:readFl b (((p1 + 2):Nat):Int)=(t,p3,0)) (h4:readFl b (p3:Int)=(s,p4,er)) (he:er ≠ 0) :
  Calls Tryz.prog 155 #[.slice A n c] w (NoPost w):=by
 have HS:Hid (∀ x,Below w.heap.size w x→Sl x A n c b):=Lib.hid fun x h=>hs.later h
 have HX0:=Lib.hid (Bt.of (T:=5) (Bxs.two w 60 #[.slice none 0 0,.int .i64 0,.slice none 0 0,.int .i64 0,.int .i64 0,.int .i64 0,.slice none 0 0] #[.slice none 0 0,.int .i64 0,.slice none 0 0,.int .i64 0,.int .i64 0,.int .i64 0,.slice none 0 0]))
 have H0:=Lib.hid h0
 obtain ⟨bb,oo,_,rfl,hbb,_,_⟩:=hs.rb.at_ (k:=p1) (by omega)
 have HC:Hid (∀ (j:Nat) (u:UInt8) x,b[j]?=some u→Below w.heap.size w x→x.cell? ⟨bb,oo + j,none⟩=some (.int .u8 (u.toNat:Int))):=Lib.hid fun j u x hu hx=>(hs.rb.later hx).cell hu
 have hbb0:¬ bb=w.heap.size:=by omega
 have hbb1:¬ bb=w.heap.size + 1:=by omega
 have HF:=Lib.hid hf
 have HG:=Lib.hid hg
 have hgd:((g.toNat:Int) != 0)=false:=by rw [hg0];rfl
 have H3:=Lib.hid h3
 have H4:=Lib.hid h4
 have hd:((er:Int) != 0)=true:=by rw [bne_iff_ne];omega
 have q1:(p1:Int) < (n:Int):=by omega
 have q2:(p1:Int) + 1 < (n:Int):=by omega
 have q3:decide ((n:Int) < (p1:Int) + 2)=false:=decide_eq_false (by omega)
 have tO1:True:=trivial
 have tF1:True:=trivial
 clear hs h0 hf hg hg0 h3 h4 he
 go_enter Tryz.func155,Tryz.ntmps155
 go_wp2_with (go_at_call 196;have _t:=tO1;go_must (refine (ro_any b (some ⟨bb,oo,none⟩) n c 0 _ (HS.out _ HX0.out.box.up) hn).mono ?_);rw [H0.out];rintro e x1 hp;obtain ⟨A1,c1,rfl,_,hO1,hb1⟩:=hp.at_ (n:=row.length) rfl rfl rfl;have HX1:=Lib.hid (HX0.out.fresh hb1 hO1);clear hb1 hp hO1 tO1;have z0:=HX1.out.box.c0 (i:=0) (v := .slice none 0 0) rfl rfl;have y0:=HX1.out.box.c1 (i:=0) (v := .slice none 0 0) rfl rfl;have z1:=HX1.out.box.c0 (i:=1) (v := .int .i64 0) rfl rfl;have y1:=HX1.out.box.c1 (i:=1) (v := .int .i64 0) rfl rfl;have z2:=HX1.out.box.c0 (i:=2) (v := .slice none 0 0) rfl rfl;have y2:=HX1.out.box.c1 (i:=2) (v := .slice none 0 0) rfl rfl;have z3:=HX1.out.box.c0 (i:=3) (v := .int .i64 0) rfl rfl;have y3:=HX1.out.box.c1 (i:=3) (v := .int .i64 0) rfl rfl;have z4:=HX1.out.box.c0 (i:=4) (v := .int .i64 0) rfl rfl;have y4:=HX1.out.box.c1 (i:=4) (v := .int .i64 0) rfl rfl;have z5:=HX1.out.box.c0 (i:=5) (v := .int .i64 0) rfl rfl;have y5:=HX1.out.box.c1 (i:=5) (v := .int .i64 0) rfl rfl;have z6:=HX1.out.box.c0 (i:=6) (v := .slice none 0 0) rfl rfl;have y6:=HX1.out.box.c1 (i:=6) (v := .slice none 0 0) rfl rfl;have fz:=HX1.out.box.f0 rfl;have fy:=HX1.out.box.f1 rfl;have g1:=HC.out p1 f _ HF.out HX1.out.box.up;have g2:=HC.out (p1 + 1) g _ HG.out HX1.out.box.up)
 go_region
 rw [show wrap64 ((f.toNat:Nat):Int)=(f.toNat:Int) from wrap64_id (by omega) (by have:=f.toNat_lt;omega)]
 go_wp2_with (first
  | (go_at_call 197;have _t:=tF1;go_must (refine (rfl_any b (some ⟨bb,oo,none⟩) n c _ _ (HS.out _ ((HX1.out.s1_0 (.slice A1 row.length c1)).s1_1 (.int .i64 (f.toNat:Int))).drew.box.up) hn).mono ?_);rw [show ((p1:Int) + 2)=((p1 + 2:Nat):Int) from by omega,H3.out];rintro e x3 ⟨rfl,rfl⟩;clear tF1)
  | (go_at_call 197;go_must (refine (rfl_any b (some ⟨bb,oo,none⟩) n c _ _ (HS.out _ (((HX1.out.s1_0 (.slice A1 row.length c1)).s1_1 (.int .i64 (f.toNat:Int))).s1_3 (.int .i64 (t:Int))).drew.box.up) hn).mono ?_);rw [H4.out];rintro e x4 ⟨rfl,rfl⟩))
 (try simp only [Exit.inBlock,Exit.then])
 have HR:=Lib.hid ((((((HX1.out.s1_0 (.slice A1 row.length c1)).s1_1 (.int .i64 (f.toNat:Int))).s1_3 (.int .i64 (t:Int))).s1_4 (.int .i64 (s:Int))).fill7 rfl (.slice A1 row.length c1) (.int .i64 (f.toNat:Int)) (.slice none 0 0) (.int .i64 (t:Int)) (.int .i64 (s:Int)) (.int .i64 0) (.slice none 0 0)).drew)
 refine bodyPost_ret (results_box1 rfl _ _ w.heap.size _ rfl (HR.out.box.cells0 rfl) (by kernel_rfl) (by kernel_rfl)) rfl ?_
 exact ⟨⟨_,_,_,_,_,_,_,_,_,_,rfl⟩,HR.out.box.up⟩
set_option maxRecDepth 100000 in
set_option maxHeartbeats 2000000 in
theorem pa_N_f4b (b:List UInt8) (A:Option Addr) (n c:Nat) (w:World) (row:List UInt8) (p1:Nat) (f g:UInt8) (t p3:Nat) (s p4:Nat) (hs:Sl w A n c b) (hn:n≤140737488355000) (h0:readO b 0=(row,p1,0)) (hlen:p1 + 2≤n) (hf:b[p1]?=some f) (hg:b[p1 + 1]?=some g) (hg0:g.toNat=0) (h3:readFl b (((p1 + 2):Nat):Int)=(t,p3,0)) (h4:readFl b (p3:Int)=(s,p4,0)) (hsh:n≤p4) :
  Calls Tryz.prog 155 #[.slice A n c] w (NoPost w):=by
 have HS:Hid (∀ x,Below w.heap.size w x→Sl x A n c b):=Lib.hid fun x h=>hs.later h
 have HX0:=Lib.hid (Bt.of (T:=5) (Bxs.two w 60 #[.slice none 0 0,.int .i64 0,.slice none 0 0,.int .i64 0,.int .i64 0,.int .i64 0,.slice none 0 0] #[.slice none 0 0,.int .i64 0,.slice none 0 0,.int .i64 0,.int .i64 0,.int .i64 0,.slice none 0 0]))
 have H0:=Lib.hid h0
 obtain ⟨bb,oo,_,rfl,hbb,_,_⟩:=hs.rb.at_ (k:=p1) (by omega)
 have HC:Hid (∀ (j:Nat) (u:UInt8) x,b[j]?=some u→Below w.heap.size w x→x.cell? ⟨bb,oo + j,none⟩=some (.int .u8 (u.toNat:Int))):=Lib.hid fun j u x hu hx=>(hs.rb.later hx).cell hu
 have hbb0:¬ bb=w.heap.size:=by omega
 have hbb1:¬ bb=w.heap.size + 1:=by omega
 have HF:=Lib.hid hf
 have HG:=Lib.hid hg
 have hgd:((g.toNat:Int) != 0)=false:=by rw [hg0];rfl
 have H3:=Lib.hid h3
 have H4:=Lib.hid h4
 have q1:(p1:Int) < (n:Int):=by omega
 have q2:(p1:Int) + 1 < (n:Int):=by omega
 have q3:decide ((n:Int) < (p1:Int) + 2)=false:=decide_eq_false (by omega)
 have tO1:True:=trivial
 have tF1:True:=trivial
 clear hs h0 hf hg hg0 h3 h4
 go_enter Tryz.func155,Tryz.ntmps155
 go_wp2_with (go_at_call 196;have _t:=tO1;go_must (refine (ro_any b (some ⟨bb,oo,none⟩) n c 0 _ (HS.out _ HX0.out.box.up) hn).mono ?_);rw [H0.out];rintro e x1 hp;obtain ⟨A1,c1,rfl,_,hO1,hb1⟩:=hp.at_ (n:=row.length) rfl rfl rfl;have HX1:=Lib.hid (HX0.out.fresh hb1 hO1);clear hb1 hp hO1 tO1;have z0:=HX1.out.box.c0 (i:=0) (v := .slice none 0 0) rfl rfl;have y0:=HX1.out.box.c1 (i:=0) (v := .slice none 0 0) rfl rfl;have z1:=HX1.out.box.c0 (i:=1) (v := .int .i64 0) rfl rfl;have y1:=HX1.out.box.c1 (i:=1) (v := .int .i64 0) rfl rfl;have z2:=HX1.out.box.c0 (i:=2) (v := .slice none 0 0) rfl rfl;have y2:=HX1.out.box.c1 (i:=2) (v := .slice none 0 0) rfl rfl;have z3:=HX1.out.box.c0 (i:=3) (v := .int .i64 0) rfl rfl;have y3:=HX1.out.box.c1 (i:=3) (v := .int .i64 0) rfl rfl;have z4:=HX1.out.box.c0 (i:=4) (v := .int .i64 0) rfl rfl;have y4:=HX1.out.box.c1 (i:=4) (v := .int .i64 0) rfl rfl;have z5:=HX1.out.box.c0 (i:=5) (v := .int .i64 0) rfl rfl;have y5:=HX1.out.box.c1 (i:=5) (v := .int .i64 0) rfl rfl;have z6:=HX1.out.box.c0 (i:=6) (v := .slice none 0 0) rfl rfl;have y6:=HX1.out.box.c1 (i:=6) (v := .slice none 0 0) rfl rfl;have fz:=HX1.out.box.f0 rfl;have fy:=HX1.out.box.f1 rfl;have g1:=HC.out p1 f _ HF.out HX1.out.box.up;have g2:=HC.out (p1 + 1) g _ HG.out HX1.out.box.up)
 go_region
 rw [show wrap64 ((f.toNat:Nat):Int)=(f.toNat:Int) from wrap64_id (by omega) (by have:=f.toNat_lt;omega)]
 go_wp2_with (first
  | (go_at_call 197;have _t:=tF1;go_must (refine (rfl_any b (some ⟨bb,oo,none⟩) n c _ _ (HS.out _ ((HX1.out.s1_0 (.slice A1 row.length c1)).s1_1 (.int .i64 (f.toNat:Int))).drew.box.up) hn).mono ?_);rw [show ((p1:Int) + 2)=((p1 + 2:Nat):Int) from by omega,H3.out];rintro e x3 ⟨rfl,rfl⟩;clear tF1)
  | (go_at_call 197;go_must (refine (rfl_any b (some ⟨bb,oo,none⟩) n c _ _ (HS.out _ (((HX1.out.s1_0 (.slice A1 row.length c1)).s1_1 (.int .i64 (f.toNat:Int))).s1_3 (.int .i64 (t:Int))).drew.box.up) hn).mono ?_);rw [H4.out];rintro e x4 ⟨rfl,rfl⟩))
 (try simp only [Exit.inBlock,Exit.then])
 have HR:=Lib.hid ((((((HX1.out.s1_0 (.slice A1 row.length c1)).s1_1 (.int .i64 (f.toNat:Int))).s1_3 (.int .i64 (t:Int))).s1_4 (.int .i64 (s:Int))).fill7 rfl (.slice A1 row.length c1) (.int .i64 (f.toNat:Int)) (.slice none 0 0) (.int .i64 (t:Int)) (.int .i64 (s:Int)) (.int .i64 0) (.slice none 0 0)).drew)
 refine bodyPost_ret (results_box1 rfl _ _ w.heap.size _ rfl (HR.out.box.cells0 rfl) (by kernel_rfl) (by kernel_rfl)) rfl ?_
 exact ⟨⟨_,_,_,_,_,_,_,_,_,_,rfl⟩,HR.out.box.up⟩
set_option maxRecDepth 100000 in
set_option maxHeartbeats 2000000 in
theorem pa_N_ok (b:List UInt8) (A:Option Addr) (n c:Nat) (w:World) (row:List UInt8) (p1:Nat) (f g:UInt8) (t p3:Nat) (s p4:Nat) (k:UInt8) (hs:Sl w A n c b) (hn:n≤140737488355000) (h0:readO b 0=(row,p1,0)) (hlen:p1 + 2≤n) (hf:b[p1]?=some f) (hg:b[p1 + 1]?=some g) (hg0:g.toNat=0) (h3:readFl b (((p1 + 2):Nat):Int)=(t,p3,0)) (h4:readFl b (p3:Int)=(s,p4,0)) (hlen4:p4 < n) (hk:b[p4]?=some k) :
  Calls Tryz.prog 155 #[.slice A n c] w (EntPost (fun v => .tuple #[v,.bool true]) ⟨row,(f.toNat:Int),[],(t:Int),(s:Int),(k.toNat:Int),[]⟩ w):=by
 have HS:Hid (∀ x,Below w.heap.size w x→Sl x A n c b):=Lib.hid fun x h=>hs.later h
 have HX0:=Lib.hid (Bt.of (T:=5) (Bxs.two w 60 #[.slice none 0 0,.int .i64 0,.slice none 0 0,.int .i64 0,.int .i64 0,.int .i64 0,.slice none 0 0] #[.slice none 0 0,.int .i64 0,.slice none 0 0,.int .i64 0,.int .i64 0,.int .i64 0,.slice none 0 0]))
 have H0:=Lib.hid h0
 obtain ⟨bb,oo,_,rfl,hbb,_,_⟩:=hs.rb.at_ (k:=p1) (by omega)
 have HC:Hid (∀ (j:Nat) (u:UInt8) x,b[j]?=some u→Below w.heap.size w x→x.cell? ⟨bb,oo + j,none⟩=some (.int .u8 (u.toNat:Int))):=Lib.hid fun j u x hu hx=>(hs.rb.later hx).cell hu
 have hbb0:¬ bb=w.heap.size:=by omega
 have hbb1:¬ bb=w.heap.size + 1:=by omega
 have HF:=Lib.hid hf
 have HG:=Lib.hid hg
 have hgd:((g.toNat:Int) != 0)=false:=by rw [hg0];rfl
 have H3:=Lib.hid h3
 have H4:=Lib.hid h4
 have HK:=Lib.hid hk
 have q1:(p1:Int) < (n:Int):=by omega
 have q2:(p1:Int) + 1 < (n:Int):=by omega
 have q3:decide ((n:Int) < (p1:Int) + 2)=false:=decide_eq_false (by omega)
 have q5:(p4:Int) < (n:Int):=by omega
 have q6:wrap64 ((k.toNat:Nat):Int)=(k.toNat:Int):=wrap64_id (by omega) (by have:=k.toNat_lt;omega)
 have q7:IntKind.i64.wrap ((k.toNat:Nat):Int)=(k.toNat:Int):=i64_sum (by omega) (by have:=k.toNat_lt;omega)
 have tO1:True:=trivial
 have tF1:True:=trivial
 clear hs h0 hf hg hg0 h3 h4 hk
 go_enter Tryz.func155,Tryz.ntmps155
 go_wp2_with (go_at_call 196;have _t:=tO1;go_must (refine (ro_any b (some ⟨bb,oo,none⟩) n c 0 _ (HS.out _ HX0.out.box.up) hn).mono ?_);rw [H0.out];rintro e x1 hp;obtain ⟨A1,c1,rfl,_,hO1,hb1⟩:=hp.at_ (n:=row.length) rfl rfl rfl;have HX1:=Lib.hid (HX0.out.fresh hb1 hO1);clear hb1 hp hO1 tO1;have z0:=HX1.out.box.c0 (i:=0) (v := .slice none 0 0) rfl rfl;have y0:=HX1.out.box.c1 (i:=0) (v := .slice none 0 0) rfl rfl;have z1:=HX1.out.box.c0 (i:=1) (v := .int .i64 0) rfl rfl;have y1:=HX1.out.box.c1 (i:=1) (v := .int .i64 0) rfl rfl;have z2:=HX1.out.box.c0 (i:=2) (v := .slice none 0 0) rfl rfl;have y2:=HX1.out.box.c1 (i:=2) (v := .slice none 0 0) rfl rfl;have z3:=HX1.out.box.c0 (i:=3) (v := .int .i64 0) rfl rfl;have y3:=HX1.out.box.c1 (i:=3) (v := .int .i64 0) rfl rfl;have z4:=HX1.out.box.c0 (i:=4) (v := .int .i64 0) rfl rfl;have y4:=HX1.out.box.c1 (i:=4) (v := .int .i64 0) rfl rfl;have z5:=HX1.out.box.c0 (i:=5) (v := .int .i64 0) rfl rfl;have y5:=HX1.out.box.c1 (i:=5) (v := .int .i64 0) rfl rfl;have z6:=HX1.out.box.c0 (i:=6) (v := .slice none 0 0) rfl rfl;have y6:=HX1.out.box.c1 (i:=6) (v := .slice none 0 0) rfl rfl;have fz:=HX1.out.box.f0 rfl;have fy:=HX1.out.box.f1 rfl;have g1:=HC.out p1 f _ HF.out HX1.out.box.up;have g2:=HC.out (p1 + 1) g _ HG.out HX1.out.box.up;have g3:=HC.out p4 k _ HK.out HX1.out.box.up)
 go_region
 rw [show wrap64 ((f.toNat:Nat):Int)=(f.toNat:Int) from wrap64_id (by omega) (by have:=f.toNat_lt;omega)]
 go_wp2_with (first
  | (go_at_call 197;have _t:=tF1;go_must (refine (rfl_any b (some ⟨bb,oo,none⟩) n c _ _ (HS.out _ ((HX1.out.s1_0 (.slice A1 row.length c1)).s1_1 (.int .i64 (f.toNat:Int))).drew.box.up) hn).mono ?_);rw [show ((p1:Int) + 2)=((p1 + 2:Nat):Int) from by omega,H3.out];rintro e x3 ⟨rfl,rfl⟩;clear tF1)
  | (go_at_call 197;go_must (refine (rfl_any b (some ⟨bb,oo,none⟩) n c _ _ (HS.out _ (((HX1.out.s1_0 (.slice A1 row.length c1)).s1_1 (.int .i64 (f.toNat:Int))).s1_3 (.int .i64 (t:Int))).drew.box.up) hn).mono ?_);rw [H4.out];rintro e x4 ⟨rfl,rfl⟩))
 (try simp only [Exit.inBlock,Exit.then])
 have HR:=Lib.hid (((((((HX1.out.s1_0 (.slice A1 row.length c1)).s1_1 (.int .i64 (f.toNat:Int))).s1_3 (.int .i64 (t:Int))).s1_4 (.int .i64 (s:Int))).s1_5 (.int .i64 (k.toNat:Int))).fill7 rfl (.slice A1 row.length c1) (.int .i64 (f.toNat:Int)) (.slice none 0 0) (.int .i64 (t:Int)) (.int .i64 (s:Int)) (.int .i64 (k.toNat:Int)) (.slice none 0 0)).drew)
 refine bodyPost_ret (results_box1 rfl _ _ w.heap.size _ rfl (HR.out.box.cells0 rfl) (by kernel_rfl) (by kernel_rfl)) rfl ?_
 exact ent_post_n (mk:=fun v => .tuple #[v,.bool true]) (rows_low HR.out.rows (Nat.le_add_right _ _)) HR.out.box.up
end Go.Proofs.YtfdbcfaeiglbeaaGreatDoor
