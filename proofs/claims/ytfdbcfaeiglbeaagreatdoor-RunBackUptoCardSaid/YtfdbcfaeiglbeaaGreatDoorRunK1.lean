/-
 Layer 7: RunBack. (Printed by gen_runk1.py.)
-/
import Derived.Test.YtfdbcfaeiglbeaaGreatDoorRunV1
import Derived.Test.YtfdbcfaeiglbeaaGreatDoorRXC
import Derived.Test.YtfdbcfaeiglbeaaGreatDoorRZ35
import Derived.Test.YtfdbcfaeiglbeaaGreatDoorRZ36
import Derived.Test.YtfdbcfaeiglbeaaGreatDoorRZ37
namespace Go.Proofs.YtfdbcfaeiglbeaaGreatDoor
open Go.RowKit
def Chain:Nat→List PcR→Prop
 | _,[]=>True
 | a,p::l=>p.lo=a∧a < p.hi∧Chain p.hi l
theorem chain_of:∀ (cs:List (List Ent)) (a:Nat),(∀ c,c ∈ cs→c ≠ [])→Chain a (pcsOf a cs)
 | [],_,_=>trivial
 | c::cs,a,h=>by
  have h1:=lay_pos (h c (.head _))
  exact ⟨rfl,by show a < a + _;omega,chain_of cs _ fun d hd=>h d (.tail _ hd)⟩
theorem back_facts {o:OptR} {L:List Ent} (h:refuseR o L=0):Chain 8 (runW o L).ps∧1≤(runW o L).ps.length∧(runW o L).ps.length≤L.length:=by
 obtain ⟨h1,h2,h3⟩:=refuse_ok h
 obtain ⟨⟨b1,b2,b3,b4⟩,hse⟩:=optOk.iff h1
 obtain ⟨hch,_⟩:=cut_ch (t:=o.block.toNat) (by omega) h3
 have hne:∀ c,c ∈ cutR o.block.toNat [] L→c ≠ []:=fun c hc=>(hch c hc).ne
 have hl:∀ (cs:List (List Ent)) (a:Nat),(pcsOf a cs).length=cs.length:=by
  intro cs
  induction cs with
  | nil=>intro a;rfl
  | cons c cs ih=>intro a;show (pcsOf _ cs).length + 1=_;rw [ih];rfl
 refine ⟨chain_of _ 8 hne,?_,?_⟩
 ·have h5:=cut_ne (t:=o.block.toNat) h2
  show 1≤(pcsOf 8 _).length
  rw [hl]
  exact List.length_pos_iff.2 h5
 ·show (pcsOf 8 _).length≤_
  rw [hl]
  exact cut_count hne
theorem write_none {o:OptR} (h:optOk o=true):writeR o []=([],71):=by
 have h1:refuseR o []=71:=by unfold refuseR;rw [h];rfl
 unfold writeR
 rw [h1];rfl
theorem chain_step {a:Nat} {l:List PcR} {i:Nat} {p:PcR} (h:Chain a (l.drop i)) (hp:l[i]?=some p):p.lo=a∧a < p.hi∧Chain p.hi (l.drop (i + 1)):=by
 rw [drop_at hp] at h;exact h
theorem pair_at {rs:List PRec} {i:Nat} {r:PRec} (h:rs[i]?=some r):(rs.flatMap pairV)[i * 2 + 0]?=some (.int .i64 r.p.lo)∧(rs.flatMap pairV)[i * 2 + 1]?=some (.int .i64 r.p.hi):=by
 induction rs generalizing i with
 | nil=>cases h
 | cons a rs ih =>
  cases i with
  | zero=>injection h with h;subst h;exact ⟨rfl,rfl⟩
  | succ i =>
   have h:=ih (i:=i) h
   have e0:(i + 1) * 2 + 0=(i * 2 + 0) + 2:=by omega
   have e1:(i + 1) * 2 + 1=(i * 2 + 1) + 2:=by omega
   rw [e0,e1]
   exact h
set_option maxRecDepth 1000000 in
set_option maxHeartbeats 16000000 in
theorem backL7_any (oa:OptR) (es:List Ent) (A:Option Addr) (n c:Nat) (w:World) (hes:Ens w A n es)
  (hel:∀ e,e ∈ es→e.row.length≤1048576∧e.qual.length≤1048576∧e.val.length≤1048576) (ht:TabAt 0 w) :
  Calls Tryz.prog 12 #[optV oa,.slice A n c] w fun e z=>e = .returned (.bool true)∧Below w.heap.size w z:=by
 have HES:Hid (∀ z,Below w.heap.size w z→Ens z A n es):=Lib.hid fun z hz=>hes.later hz
 have HTB:Hid (∀ z,Below w.heap.size w z→TabAt 0 z):=Lib.hid fun z hz=>ht.later hz
 have HEL:Hid (∀ e,e ∈ es→e.row.length≤140737488355000∧e.qual.length≤140737488355000∧e.val.length≤140737488355000):=Lib.hid fun e he=>by
  obtain ⟨h1,h2,h3⟩:=hel e he
  exact ⟨by omega,by omega,by omega⟩
 obtain ⟨v0,v1,v2,v3,v4,hv⟩:∃ v0 v1 v2 v3 v4,optF oa=⟨v0,v1,v2,v3,v4⟩:=⟨_,_,_,_,_,rfl⟩
 have hok:optOk ⟨v0,v1,v2,v3,v4⟩=true:=by rw [← hv];exact optF_ok oa
 obtain ⟨s1,s2,s3,s4,s5,s6⟩:=sealI.iff (optOk.iff hok).2
 obtain ⟨n2,hn2⟩:∃ k:Nat,v2=k:=⟨v2.toNat,by simp only at s1;omega⟩
 obtain ⟨n3,hn3⟩:∃ k:Nat,v3=k:=⟨v3.toNat,by simp only at s5;omega⟩
 obtain ⟨n4,hn4⟩:∃ k:Nat,v4=k:=⟨v4.toNat,by simp only at s3;omega⟩
 subst hn2 hn3 hn4
 simp only at s2
 have HOA:Hid (optV (optF oa) = .agg #[.int .i64 v0,.int .i64 v1,.int .i64 n2,.int .i64 n3,.int .i64 n4]):=Lib.hid (by rw [hv];rfl)
 have HKA:Hid (optOk ⟨v0,v1,n2,n3,n4⟩=true):=Lib.hid hok
 have hn2:n2≤1099511627776:=by omega
 obtain ⟨L,hL⟩:∃ L,L=ordL n2 (es.take 120):=⟨_,rfl⟩
 have HL:=Lib.hid hL.symm
 have HOL:Hid (OrdOk n2 L):=Lib.hid (by rw [hL];exact ord_ok _ _)
 have HW0:=Lib.hid (write_none hok)
 have HX:=Lib.hid (OW.nil w)
 clear hes hel ht hv hok hL s1 s2 s3 s4 s5 s6
 unfold optV
 go_enter Tryz.func12,Tryz.ntmps12
 go_upto_region 3 with (first
  | (refine wl_box rfl (.tmp 0) rfl [.int .i64 oa.block,.int .i64 oa.bits,.int .i64 oa.index,.int .i64 oa.low,.int .i64 oa.clock] rfl HX.out ?_;intro g1 x1 hz _;have HX1:Hid (OW w [boxO g1 [.int .i64 oa.block,.int .i64 oa.bits,.int .i64 oa.index,.int .i64 oa.low,.int .i64 oa.clock]] x1):=Lib.hid hz;clear hz HX)
  | (refine wl_rowR rfl 23 (.tmp 2) rfl rfl (HX1.out.range (i:=0) rfl) opts_row ?_)
  | (go_at_call 25;go_must (refine (options_any oa _).mono ?_);rw [HOA.out];rintro e x2 ⟨rfl,hb⟩;have HX2:=Lib.hid (HX1.out.later hb);clear hb HX1)
  | (refine wl_alloc rfl rfl [.int .i64 0,.int .i64 0,.int .i64 0,.int .i64 0,.int .i64 0] (.inl (by kernel_rfl)) HX2.out ?_;intro g2 x3 hz _;have HX3:Hid (OW w [boxO g1 [.int .i64 oa.block,.int .i64 oa.bits,.int .i64 oa.index,.int .i64 oa.low,.int .i64 oa.clock],boxO g2 [.int .i64 0,.int .i64 0,.int .i64 0,.int .i64 0,.int .i64 0]] x3):=Lib.hid hz;clear hz HX2)
  | (refine wl_put rfl (.tmp 5) (.tmp 24) rfl HX3.out 1 rfl rfl [.int .i64 v0,.int .i64 v1,.int .i64 n2,.int .i64 n3,.int .i64 n4] rfl rfl (by kernel_rfl) (by simp [Value.oneCell']) ?_;intro x4 hz _;have HX4:Hid (OW w [boxO g1 [.int .i64 oa.block,.int .i64 oa.bits,.int .i64 oa.index,.int .i64 oa.low,.int .i64 oa.clock],boxO g2 [.int .i64 v0,.int .i64 v1,.int .i64 n2,.int .i64 n3,.int .i64 n4]] x4):=Lib.hid hz;clear hz HX3)
  | (refine wpList_load_cell rfl 3 (.tmp 26) rfl rfl (HX4.out.cell (i:=1) (j:=2) rfl rfl) Tryz.isAgg3 ?_)
  | (go_at_call 38;go_must (refine (ordered7_any n2 (by omega) es A n c _ (HES.out _ HX4.out.up) HEL.out).mono ?_);rw [HL.out];rintro e x5 ⟨LA,lc,ll,rfl,hll,hE,hb⟩;have HX5:Hid (OW w [boxO g1 [.int .i64 oa.block,.int .i64 oa.bits,.int .i64 oa.index,.int .i64 oa.low,.int .i64 oa.clock],boxO g2 [.int .i64 v0,.int .i64 v1,.int .i64 n2,.int .i64 n3,.int .i64 n4]] x5):=Lib.hid (HX4.out.later hb);have HLE:Hid (∀ z,Below x5.heap.size x5 z→Ens z LA ll L):=Lib.hid fun z hz=>hE.later hz;have HLL:Hid (L.length=ll):=Lib.hid hE.len;clear hE hb HX4))
 by_cases h0:ll=0
 case pos =>
  have d1:((ll:Int) == 0)=true:=by rw [h0];rfl
  have d2:(ll == 0)=true:=by rw [h0];rfl
  clear h0
  go_wp2_with (first
   | (refine wl_rowR rfl 23 (.tmp 5) rfl rfl (HX5.out.range (i:=1) rfl) opts_row ?_)
   | (go_at_call 57;go_must (refine (write_any ⟨v0,v1,n2,n3,n4⟩ [] none 0 0 _ Ens.nil (by decide) (HTB.out _ HX5.out.up)).mono ?_);rw [HW0.out];rintro e x6 hp;obtain ⟨B,d,rfl,_,_,hb⟩:=hp.at_ (n:=0) (k':=71) rfl rfl;have HX6:=Lib.hid (HX5.out.later hb);clear hp hb HX5)
   | (go_at_call 24;go_must (refine (started_any _ (HTB.out _ HX6.out.up)).mono ?_);rintro e x7 ⟨rfl,hb⟩;have HX7:=Lib.hid (HX6.out.later hb);clear hb HX6)
   | (go_at_call 20;go_must (refine (num7_any 71 _).mono ?_);rintro e x8 ⟨rfl,rfl⟩))
  go_ret
  exact ⟨rfl,HX7.out.up⟩
 have d1:((ll:Int) == 0)=false:=beq_eq_false_iff_ne.2 (by omega)
 have d2:(ll == 0)=false:=beq_eq_false_iff_ne.2 h0
 have HRA:Hid (refuseR ⟨v0,v1,n2,n3,n4⟩ L=0):=Lib.hid (refuse_of HKA.out (fun h=>h0 (by rw [← HLL.out,h];rfl)) HOL.out)
 have HSA:Hid ((runBy ⟨v0,v1,n2,n3,n4⟩ L).length≤16777216):=Lib.hid (run_small HRA.out (by rw [HLL.out];omega))
 obtain ⟨hwt1,_,hwt3⟩:=written_tells HRA.out (by rw [HLL.out];omega)
 obtain ⟨hch,hp1,hp2⟩:=back_facts HRA.out
 obtain ⟨p1,p2,ea,eb,he1,he2,he3,he4,he5,he6⟩:=runW_ends HRA.out
 obtain ⟨rw7,hrw⟩:∃ z,z=runW ⟨v0,v1,n2,n3,n4⟩ L:=⟨_,rfl⟩
 have HRC:Hid (rw7.count=ll∧rw7.index=n2∧rw7.low=n3∧rw7.clock=n4∧rw7.bytes=runBy ⟨v0,v1,n2,n3,n4⟩ L):=Lib.hid (by rw [hrw];exact ⟨HLL.out,rfl,rfl,rfl,rfl⟩)
 rw [← hrw] at hwt1 hwt3 hch hp1 hp2 he1 he2
 have HRW:=Lib.hid hrw.symm
 have HWT:=Lib.hid hwt1
 have HWV:=Lib.hid hwt3
 have HCH:=Lib.hid hch
 have HPN:=Lib.hid (And.intro hp1 hp2)
 have HE1:=Lib.hid he1
 have HE2:=Lib.hid he2
 have HE3:=Lib.hid he3
 have HE4:Hid (L[ll - 1]?=some eb):=Lib.hid (by rw [← HLL.out];exact he4)
 have HCA:Hid (checkE ea=0∧checkE eb=0):=Lib.hid ⟨HOL.out.chk _ (List.mem_of_getElem? he3),HOL.out.chk _ (List.mem_of_getElem? he4)⟩
 obtain ⟨xb,hxb⟩:∃ x,x=runBy ⟨v0,v1,n2,n3,n4⟩ L:=⟨_,rfl⟩
 have HXB:=Lib.hid hxb.symm
 obtain ⟨ka,hka⟩:∃ x,x=keyE ea:=⟨_,rfl⟩
 obtain ⟨kb,hkb⟩:∃ x,x=keyE eb:=⟨_,rfl⟩
 rw [← hka] at he5
 rw [← hkb] at he6
 have HP5:=Lib.hid (And.intro he5 he6)
 have HKE:Hid (KeyE ea=(ka,0)∧KeyE eb=(kb,0)):=Lib.hid ⟨by unfold KeyE;rw [if_pos HCA.out.1,hka],by unfold KeyE;rw [if_pos HCA.out.2,hkb]⟩
 obtain ⟨kan,hkan⟩:∃ z,z=ka.length:=⟨_,rfl⟩
 obtain ⟨kbn,hkbn⟩:∃ z,z=kb.length:=⟨_,rfl⟩
 have HKN:Hid (ka.length=kan∧kb.length=kbn):=Lib.hid ⟨hkan.symm,hkbn.symm⟩
 have hl0:0 < ll:=by omega
 clear h0 hwt1 hwt3 hch hp1 hp2 he1 he2 he3 he4 he5 he6 hrw hxb hka hkb hkan hkbn
 go_upto_region 7 with (first
  | (refine wl_rowR rfl 23 (.tmp 5) rfl rfl (HX5.out.range (i:=1) rfl) opts_row ?_)
  | (go_at_call 27;go_must (refine (made_yes ⟨v0,v1,n2,n3,n4⟩ L LA ll lc _ (HLE.out _ (Below.refl _ _)) (by omega) HRA.out HSA.out (HTB.out _ HX5.out.up)).mono ?_);rw [HXB.out,HRW.out];rintro e x6 ⟨q,XA,xm,xcp,hq1,hq2,hxl,rfl,hz⟩;have HXL:=Lib.hid hxl;have HQ:=Lib.hid (And.intro hq1 hq2);have HQA:Hid (∀ z,Below x6.heap.size x6 z→RunAt q z):=Lib.hid fun z hb=>(RunAt.of hq2.ok (hz.later hb) (List.sublist_cons_self _ _));have HX6:Hid (OW w [boxO g1 [.int .i64 oa.block,.int .i64 oa.bits,.int .i64 oa.index,.int .i64 oa.low,.int .i64 oa.clock],boxO g2 [.int .i64 v0,.int .i64 v1,.int .i64 n2,.int .i64 n3,.int .i64 n4]] x6):=Lib.hid (HX5.out.later hz.up);have HLE6:Hid (∀ z,Below x6.heap.size x6 z→Ens z LA ll L):=Lib.hid fun z hb=>(HLE.out _ hz.up).later hb;have HQO:Hid (∀ z,Below x6.heap.size x6 z→OW x5 q.obs z):=Lib.hid fun z hb=>OW.right (os:=[bytO 5 (XA,xcp,xb)]) (hz.later hb);have HLEX:=HLE;have HU5:=Lib.hid HX5.out.up;clear hxl hq1 hq2 hz HX5 HLE))
 have HF1:Hid (q.f1.p.a=ka∧q.fn.p.b=kb):=Lib.hid (by
  obtain ⟨h1,h2⟩:=HQ.out.2.ends
  rw [HQ.out.1,HE1.out] at h1
  rw [HQ.out.1,HE2.out] at h2
  injection h1 with h1
  injection h2 with h2
  exact ⟨by rw [← h1,HP5.out.1],by rw [← h2,HP5.out.2]⟩)
 have HKQ:Hid (q.f1.p.a.length≤100000000∧q.fn.p.b.length≤100000000):=Lib.hid (by
  have h1:=(pcin_len (HQ.out.2.pin HQ.out.2.ok.first)).1
  have h2:=(pcin_len (HQ.out.2.pin HQ.out.2.ok.last)).2
  omega)
 have HMV:Hid ((.agg #[.int .i64 0,.int .i64 q.r.count,.int .i64 q.r.index,.int .i64 q.r.low,.int .i64 q.r.clock,.int .i64 q.r.bytes.length,.slice none q.f1.p.a.length 0,.slice none q.fn.p.b.length 0]:Value) = .agg #[.int .i64 0,.int .i64 ll,.int .i64 n2,.int .i64 n3,.int .i64 n4,.int .i64 xm,.slice none kan 0,.slice none kbn 0]):=Lib.hid (by
  rw [HF1.out.1,HF1.out.2,HQ.out.1,HRC.out.1,HRC.out.2.1,HRC.out.2.2.1,HRC.out.2.2.2.1,HRC.out.2.2.2.2,HXB.out,HXL.out,HKN.out.1,HKN.out.2])
 have HMQ:Hid (∀ z e y,MetaP q z e y→∃ MA mc MB md,e = .returned (.agg #[.int .i64 0,.int .i64 ll,.int .i64 n2,.int .i64 n3,.int .i64 n4,.int .i64 xm,.slice MA kan mc,.slice MB kbn md])∧OW z [bytO 5 (MA,mc,ka),bytO 5 (MB,md,kb)] y):=Lib.hid fun z e y hp=>by
  obtain ⟨MA,mc,MB,md,he,hz⟩:=hp
  rw [HF1.out.1,HF1.out.2] at hz
  refine ⟨MA,mc,MB,md,?_,hz⟩
  rw [he,HF1.out.1,HF1.out.2,HQ.out.1,HRC.out.1,HRC.out.2.1,HRC.out.2.2.1,HRC.out.2.2.2.1,HRC.out.2.2.2.2,HXB.out,HXL.out,HKN.out.1,HKN.out.2]
 clear HMV
 go_upto_region 10 with (first
  | (go_at_call 28;go_must (refine (meta_any q _ (HQA.out _ (Below.refl _ _)) HKQ.out).mono ?_);intro e x7 hp;obtain ⟨MA,mc,MB,md,rfl,hz⟩:=HMQ.out _ _ _ hp;have HY7:=Lib.hid hz;clear hp hz)
  | (refine wl_alloc rfl rfl [.int .i64 0,.int .i64 0,.int .i64 0,.int .i64 0,.int .i64 0,.int .i64 0,.slice none 0 0,.slice none 0 0] (.inl (by kernel_rfl)) HY7.out ?_;intro g8 x8 hz _;have HY8:=Lib.hid hz;clear hz HY7)
  | (refine wl_put rfl (.tmp 11) (.tmp 52) rfl HY8.out 2 rfl rfl [.int .i64 0,.int .i64 ll,.int .i64 n2,.int .i64 n3,.int .i64 n4,.int .i64 xm,.slice MA kan mc,.slice MB kbn md] rfl rfl (by kernel_rfl) (by simp [Value.oneCell']) ?_;intro x9 hz _;have HY9:Hid (OW x6 [bytO 5 (MA,mc,ka),bytO 5 (MB,md,kb),boxO g8 [.int .i64 0,.int .i64 ll,.int .i64 n2,.int .i64 n3,.int .i64 n4,.int .i64 xm,.slice MA kan mc,.slice MB kbn md]] x9):=Lib.hid hz;have HX9:=Lib.hid (HX6.out.later hz.up);clear hz HY8 HX6))
 have e1:((ll:Int) != (ll:Int))=false:=by simp
 have e2:((n2:Int) != (n2:Int))=false:=by simp
 have e3:((n3:Int) != (n3:Int))=false:=by simp
 have e4:((n4:Int) != (n4:Int))=false:=by simp
 have e5:((xm:Int) != (xm:Int))=false:=by simp
 have f1:(ll != ll)=false:=by simp
 have f2:(n2 != n2)=false:=by simp
 have f3:(n3 != n3)=false:=by simp
 have f4:(n4 != n4)=false:=by simp
 have f5:(xm != xm)=false:=by simp
 obtain ⟨b,oo,Ar,ec,B,d,D,qq,e,hLA,hbl,hek,hrg,hen⟩:=(HLE6.out _ (Below.refl _ _)).at_ hl0
 subst hLA
 obtain rfl:ea=e:=by have h:=HE3.out;rw [h] at hek;injection hek
 obtain ⟨b',oo',Ar',ec',B',d',D',qq',e',hLA',hbl',hek',hrg',hen'⟩:=(HLE6.out _ (Below.refl _ _)).at_ (show ll - 1 < ll by omega)
 injection hLA' with hLA'
 injection hLA' with hb1 hb2 _
 subst hb1 hb2
 obtain rfl:eb=e':=by have h:=HE4.out;rw [h] at hek';injection hek'
 obtain ⟨l1,hl1⟩:∃ z,z=ll - 1:=⟨_,rfl⟩
 rw [← hl1] at hrg'
 have q1:(ll:Int) - 1=(l1:Int):=by omega
 have q2:(0:Int)≤(l1:Int):=by omega
 have q3:(l1:Int) < (ll:Int):=by omega
 have q4:(0:Int) < (ll:Int):=by omega
 have HUQ:Hid (Below x6.heap.size x6 x9):=Lib.hid HY9.out.up
 have HR0:Hid (∀ z,Below x6.heap.size x6 z→z.rangeAt b oo [.slice Ar ea.row.length ec,.int .i64 ea.fam,.slice B ea.qual.length d,.int .i64 ea.ts,.int .i64 ea.seq,.int .i64 ea.kind,.slice D ea.val.length qq]):=Lib.hid fun z hz j v hj=>(hz.cell (p:=⟨b,_,none⟩) hbl).trans (by have h:=hrg j v hj;simpa using h)
 have HR1:Hid (∀ z,Below x6.heap.size x6 z→z.rangeAt b (oo + l1 * 7) [.slice Ar' eb.row.length ec',.int .i64 eb.fam,.slice B' eb.qual.length d',.int .i64 eb.ts,.int .i64 eb.seq,.int .i64 eb.kind,.slice D' eb.val.length qq']):=Lib.hid fun z hz j v hj=>(hz.cell (p:=⟨b,_,none⟩) hbl).trans (hrg' j v hj)
 have HN0:Hid (∀ z,Below x6.heap.size x6 z→En z Ar ea.row.length ec B ea.qual.length d D ea.val.length qq ea):=Lib.hid fun z hz=>hen.later hz
 have HN1:Hid (∀ z,Below x6.heap.size x6 z→En z Ar' eb.row.length ec' B' eb.qual.length d' D' eb.val.length qq' eb):=Lib.hid fun z hz=>hen'.later hz
 have tk1:True:=trivial
 have tk2:True:=trivial
 clear hek hrg hen hek' hrg' hen' hl1 hbl hbl'
 have HKK:Hid ((ka == ka)=true∧(kb == kb)=true):=Lib.hid ⟨by simp,by simp⟩
 have HNB:Hid (q.rs.length≤1000000000∧q.r.ps.length=q.rs.length):=Lib.hid ⟨by have h1:=HQ.out.2.len;have h2:=HQ.out.2.few;omega,HQ.out.2.len.symm⟩
 obtain ⟨nb,hnb⟩:∃ z,z=q.rs.length:=⟨_,rfl⟩
 have HNQ:=Lib.hid hnb.symm
 have hnb1:1≤nb∧nb≤ll:=by
  have h1:=HPN.out
  have h2:=HNB.out.2
  rw [HQ.out.1] at h2
  rw [← HLL.out,hnb,← h2];exact h1
 clear hnb
 go_wp2_with (first
  | (refine wpList_load_cell rfl 3 (.tmp 53) rfl rfl (HY9.out.cell (i:=2) (j:=0) rfl rfl) Tryz.isAgg3 ?_)
  | (refine wpList_load_cell rfl 3 (.tmp 57) rfl rfl (HY9.out.cell (i:=2) (j:=1) rfl rfl) Tryz.isAgg3 ?_)
  | (refine wpList_load_cell rfl 3 (.tmp 64) rfl rfl (HY9.out.cell (i:=2) (j:=2) rfl rfl) Tryz.isAgg3 ?_)
  | (refine wpList_load_cell rfl 3 (.tmp 66) rfl rfl (HX9.out.cell (i:=1) (j:=2) rfl rfl) Tryz.isAgg3 ?_)
  | (refine wpList_load_cell rfl 3 (.tmp 71) rfl rfl (HY9.out.cell (i:=2) (j:=3) rfl rfl) Tryz.isAgg3 ?_)
  | (refine wpList_load_cell rfl 3 (.tmp 73) rfl rfl (HX9.out.cell (i:=1) (j:=3) rfl rfl) Tryz.isAgg3 ?_)
  | (refine wpList_load_cell rfl 3 (.tmp 78) rfl rfl (HY9.out.cell (i:=2) (j:=4) rfl rfl) Tryz.isAgg3 ?_)
  | (refine wpList_load_cell rfl 3 (.tmp 80) rfl rfl (HX9.out.cell (i:=1) (j:=4) rfl rfl) Tryz.isAgg3 ?_)
  | (refine wpList_load_cell rfl 3 (.tmp 85) rfl rfl (HY9.out.cell (i:=2) (j:=5) rfl rfl) Tryz.isAgg3 ?_)
  | (refine wpList_load_at rfl 60 (.tmp 93) rfl rfl (HR0.out _ HUQ.out) ent_row5 ?_)
  | (go_at_call 58;(have _t:=tk1);go_must (refine (rKey_any ea Ar _ ec B _ d D _ qq _ (HN0.out _ HUQ.out)).mono ?_);rw [HKE.out.1];rintro r x10 hp;obtain ⟨Ak,ck,rfl,hs1,_,hb⟩:=hp.at_ HKN.out.1 rfl;have HS1:Hid (∀ z,Below x10.heap.size x10 z→Sl z Ak kan ck ka):=Lib.hid fun z hz=>hs1.later hz;have HX10:=Lib.hid (HX9.out.later hb);have HY10:=Lib.hid (HY9.out.later hb);have HUQ1:Hid (Below x6.heap.size x6 x10):=Lib.hid (HUQ.out.trans (hb.mono HUQ.out.size));clear hp hs1 hb HX9 HY9 tk1 _t)
  | (refine wpList_load_at rfl 60 (.tmp 103) rfl rfl (HR1.out _ HUQ1.out) ent_row5 ?_)
  | (go_at_call 58;go_must (refine (rKey_any eb Ar' _ ec' B' _ d' D' _ qq' _ (HN1.out _ HUQ1.out)).mono ?_);rw [HKE.out.2];rintro r x11 hp;obtain ⟨Bk,dk,rfl,hs2,_,hb⟩:=hp.at_ HKN.out.2 rfl;have HS2:Hid (∀ z,Below x11.heap.size x11 z→Sl z Bk kbn dk kb):=Lib.hid fun z hz=>hs2.later hz;have HS3:Hid (∀ z,Below x11.heap.size x11 z→Sl z Ak kan ck ka):=Lib.hid fun z hz=>(HS1.out _ hb).later hz;have HX11:=Lib.hid (HX10.out.later hb);have HY11:=Lib.hid (HY10.out.later hb);have HUQ2:Hid (Below x6.heap.size x6 x11):=Lib.hid (HUQ1.out.trans (hb.mono HUQ1.out.size));clear hp hs2 hb HX10 HY10 HS1)
  | (refine wpList_load_cell rfl 34 (.tmp 115) rfl rfl (HY11.out.cell (i:=2) (j:=6) rfl rfl) Tryz.isAgg34 ?_)
  | (go_at_call 43;(have _t:=tk2);go_must (refine (rSame_any ka ka MA Ak kan mc kan ck _ (HY11.out.sl (i:=0) rfl HKN.out.1).rb (HS3.out _ (Below.refl _ _)).rb).mono ?_);rw [HKK.out.1];rintro r y1 ⟨rfl,rfl⟩;clear tk2 _t)
  | (refine wpList_load_cell rfl 34 (.tmp 122) rfl rfl (HY11.out.cell (i:=2) (j:=7) rfl rfl) Tryz.isAgg34 ?_)
  | (go_at_call 43;go_must (refine (rSame_any kb kb MB Bk kbn md kbn dk _ (HY11.out.sl (i:=1) rfl HKN.out.2).rb (HS2.out _ (Below.refl _ _)).rb).mono ?_);rw [HKK.out.2];rintro r y2 ⟨rfl,rfl⟩)
  | (go_at_call 29;go_must (refine (blocks_any q _ (HQA.out _ HUQ2.out) HNB.out.1).mono ?_);rw [HNQ.out];rintro r x12 ⟨BA,bc,rfl,hz⟩;have HBR:=Lib.hid hz;have HX12:=Lib.hid (HX11.out.later hz.up);have HUQ3:Hid (Below x6.heap.size x6 x12):=Lib.hid (HUQ2.out.trans (hz.up.mono HUQ2.out.size));clear hz HX11))
 obtain ⟨bg,bcap,hv,_⟩:=own_form (HBR.out.row (i:=0) rfl) (show 0 < nb by omega)
 injection hv with hv _ hcp
 subst hv
 subst hcp
 have HBP:Hid (∀ i r,q.rs[i]?=some r→x12.cell? ⟨bg,i * 2 + 0,none⟩=some (.int .i64 r.p.lo)∧x12.cell? ⟨bg,i * 2 + 1,none⟩=some (.int .i64 r.p.hi)):=Lib.hid fun i r hr=>by
  obtain ⟨h1,h2⟩:=pair_at hr
  have hi:=(List.getElem?_eq_some_iff.1 hr).1
  rw [HNQ.out] at hi
  exact ⟨(World.ownsRow.cellAt (HBR.out.row (i:=0) rfl) _ (by omega)).trans h1,(World.ownsRow.cellAt (HBR.out.row (i:=0) rfl) _ (by omega)).trans h2⟩
 have HCH8:Hid (Chain 8 (q.r.ps.drop 0)):=Lib.hid (by rw [List.drop_zero,HQ.out.1];exact HCH.out)
 go_loopw [16,18] (fun av iv wr=>∃ i a:Nat,i≤nb∧av = .int .i64 a∧iv = .int .i64 i∧Hid (Chain a (q.r.ps.drop i))∧wr=x12) (fun _ iv _=>nb - (intOf iv).toNat)
 case atStart=>exact ⟨0,8,Nat.zero_le _,rfl,rfl,HCH8,rfl⟩
 case round =>
  clear HCH8
  obtain ⟨i,a,hi,rfl,rfl,HCI,rfl⟩:=hrel
  by_cases hlt:i < nb
  case pos =>
   have hd:decide ((i:Int) < (nb:Int))=true:=decide_eq_true (by omega)
   have i0:(0:Int)≤(i:Int):=by omega
   have i1:(i:Int) < (nb:Int):=by omega
   obtain ⟨r,hr⟩:∃ r,q.rs[i]?=some r:=⟨_,List.getElem?_eq_getElem (by rw [HNQ.out];exact hlt)⟩
   obtain ⟨hc0,hc1⟩:=HBP.out i r hr
   obtain ⟨h1,h2,h3⟩:=chain_step HCI.out (HQ.out.2.at_ hr)
   obtain ⟨lo,hlo⟩:∃ z,z=r.p.lo:=⟨_,rfl⟩
   obtain ⟨hi',hhi⟩:∃ z,z=r.p.hi:=⟨_,rfl⟩
   rw [← hlo] at hc0 h1
   rw [← hhi] at hc1 h2 h3
   subst h1
   have HC1:=Lib.hid hc1
   have HC0:=Lib.hid hc0
   have HCN:=Lib.hid h3
   have g1:((lo:Int) != (lo:Int))=false:=by simp
   have g2:(lo != lo)=false:=by simp
   have g3:decide ((hi':Int)≤(lo:Int))=false:=decide_eq_false (by omega)
   have g4:decide (hi'≤lo)=false:=decide_eq_false (by omega)
   clear hc0 hc1 h2 h3 hlo hhi hr
   go_wp2_with (first
    | (refine wpList_load_cell rfl 3 (.tmp 139) rfl rfl (by first | exact HC0.out | simpa using HC0.out) Tryz.isAgg3 ?_)
    | (refine wpList_load_cell rfl 3 (.tmp 147) rfl rfl (by first | exact HC1.out | simpa using HC1.out) Tryz.isAgg3 ?_)
    | (refine wpList_load_cell rfl 3 (.tmp 155) rfl rfl (by first | exact HC1.out | simpa using HC1.out) Tryz.isAgg3 ?_))
   go_roundw
   case rel=>exact ⟨i + 1,hi',by omega,rfl,by go_num,HCN,by first | trivial | rfl⟩
   case measure=>simp [intOf];omega
  have hd:decide ((i:Int) < (nb:Int))=false:=decide_eq_false (by omega)
  have HIX:Hid (q.r.index≤1099511627776):=Lib.hid (by rw [HQ.out.1,HRC.out.2.1];exact hn2)
  have HCT:Hid (L.length≤q.r.count):=Lib.hid (by rw [HQ.out.1,HRC.out.1,HLL.out];exact Nat.le_refl _)
  have HUP:Hid (Below w.heap.size w wr):=Lib.hid HX12.out.up
  obtain ⟨ek,hek⟩:∃ k:Int,k=endK true:=⟨_,rfl⟩
  have m2:(ek == 0)=true:=by rw [hek];rfl
  have HEK:=Lib.hid hek.symm
  have g5:decide ((nb:Int) ≥ 1)=true:=decide_eq_true (by omega)
  have g6:decide ((1:Int)≤(nb:Int))=true:=decide_eq_true (by omega)
  have g7:decide ((nb:Int)≤(ll:Int))=true:=decide_eq_true (by omega)
  have HL120:Hid (ll≤120):=Lib.hid hll.1
  clear hek
  go_upto_region 25 with (go_at_call 30;go_must (refine (verify_any q HQ.out.2 _ (HQA.out _ HUQ3.out) (HTB.out _ HUP.out) HIX.out).mono ?_);rw [HQ.out.1,HWV.out];rintro r x13 ⟨rfl,hb⟩;have HX13:=Lib.hid (HX12.out.later hb);have HUQ4:Hid (Below x6.heap.size x6 x13):=Lib.hid (HUQ3.out.trans (hb.mono HUQ3.out.size));clear hb HX12)
  go_upto_region 26 with (go_at_call 31;go_must (refine (all_goes q HQ.out.2 x5 _ q.obs (List.Sublist.refl _) (HQO.out _ HUQ4.out) (HTB.out _ HU5.out) L true (by rw [HQ.out.1];exact HWT.out) HCT.out (by rw [HLL.out];have:=HL120.out;omega)).mono ?_);intro r x14 hp;obtain ⟨cg,c',GA,gc,rs,j1,j2,j3,j4,rfl,hz⟩:=hp;rw [HEK.out];have HZ:Hid (OW x5 (entsO GA rs.length gc rs ++ (c'.obs q ++ q.obs)) x14):=Lib.hid hz;have HRS:=Lib.hid j4;clear hz j1 j2 j3 j4)
  have HGE:Hid (Ens x14 GA rs.length L):=Lib.hid (by
   have h:=rowE_ens HZ.out
   rwa [HRS.out] at h)
  have HRN:Hid (rs.length≤1000000000):=Lib.hid (by
   have h:=HGE.out.len
   rw [HLL.out] at h
   have:=HL120.out
   omega)
  have HLE9:Hid (Ens x14 (some ⟨b,oo,none⟩) ll L):=Lib.hid (HLEX.out _ HZ.out.up)
  have HUE:Hid (Below w.heap.size w x14):=Lib.hid (HU5.out.trans (HZ.out.up.mono HU5.out.size))
  go_wp2_with (first
   | (go_at_call 20;go_must (refine (num7_any 0 _).mono ?_);rintro r x15 ⟨rfl,rfl⟩)
   | (go_at_call 32;go_must (refine (sameAll_any L L GA rs.length gc (some ⟨b,oo,none⟩) ll lc _ HGE.out HLE9.out HRN.out).mono ?_);rintro r x16 ⟨bo,rfl,hbo,hb⟩;obtain rfl:=hbo.2 rfl;have HX16:=Lib.hid (HUE.out.trans (hb.mono HUE.out.size));clear hb hbo))
  go_ret
  exact ⟨rfl,HX16.out⟩
end Go.Proofs.YtfdbcfaeiglbeaaGreatDoor
