/-
  Laid together by merge.py: BlockC3, BlockD1, BlockD2, BlockL3, BlockM2, BlockM4, RunP4, RunP5, BlockC4, BlockR1, BlockR2, BlockL2, BlockS1, BlockA1, BlockS4, BloomW1, BloomW2, BloomW3, BloomW4, BloomW5, BloomW6, BloomW7, Kit42, Kit43, Kit44.
-/
import Derived.Test.YtfdbcfaeiglbeaaGreatDoorRQ5
import Derived.Test.YtfdbcfaeiglbeaaGreatDoorRQ3
import Derived.Test.YtfdbcfaeiglbeaaGreatDoorRQ1
import Derived.Test.YtfdbcfaeiglbeaaGreatDoorRQ4
import Derived.Test.YtfdbcfaeiglbeaaGreatDoorRows
import Derived.BigRegion
import Derived.Deep.DeepCutAuto
import Derived.Maps.RangeWalk
import Derived.Sort.MapsRangeIn
import Derived.Lib.MinMax
namespace Go.Proofs.YtfdbcfaeiglbeaaGreatDoor
open Go.RowKit
theorem readBy_le5 (l : List UInt8) (a most : Int) : (readBy l a most).1.length ≤ l.length := by
  unfold readBy
  split
  · exact Nat.zero_le _
  · split
    · exact Nat.zero_le _
    · split
      · exact Nat.zero_le _
      · split
        · exact Nat.zero_le _
        · unfold cutS; simp only [List.length_take, List.length_drop]; omega
def ReadP (w : World) (R g : Nat) (rest : List Ob) (b : List UInt8) (N : Nat) (e : Ending) (z : World) : Prop :=
  ∃ lv kv zs, OW w (blkO R g lv kv zs ++ rest) z ∧ ZOk zs ∧ ((∃ key a, rdF b N = some (entsZ zs, key, a) ∧ e = .returned (.bool true)) ∨ (rdF b N = none ∧ e = .returned (.bool false)))
theorem entsZ_snoc (zs : List ZR) (z : ZR) : entsZ (zs ++ [z]) = entsZ zs ++ [z.1.e] := by unfold entsZ; rw [List.map_append]; rfl
theorem Tryz.entsS : SliceOf Tryz.prog 24 60 7 104 := SliceOf.mk' (z := .agg #[.slice none 0 0, .int .i64 0, .slice none 0 0, .int .i64 0, .int .i64 0, .int .i64 0, .slice none 0 0]) Tryz.underlying24 (by kernel_rfl) rfl (by decide)
theorem Tryz.keyS5 : SliceOf Tryz.prog 88 34 1 24 := SliceOf.mk' (z := .slice none 0 0) Tryz.underlying88 (by kernel_rfl) rfl (by decide)
def KeyAt (zs : List ZR) (A : Option Addr) (c : Nat) (key : List UInt8) : Prop := (A = none ∧ c = 0 ∧ key = []) ∨ ∃ z, z ∈ zs ∧ z.2 = (A, c, key)
theorem KeyAt.sl {zs : List ZR} {A : Option Addr} {c kl : Nat} {key : List UInt8} (h : KeyAt zs A c key) (hk : key.length = kl) {w x : World} {os : List Ob} (hx : OW w os x) (hm : ∀ z, z ∈ zs → bytO 5 z.2 ∈ os) : Sl x A kl c key := by
  rcases h with ⟨rfl, rfl, rfl⟩ | ⟨z, hz, e⟩
  · subst hk; exact Sl.none _
  · exact hx.slm (by rw [← e]; exact hm z hz) hk
theorem KeyAt.len {zs : List ZR} {A : Option Addr} {c : Nat} {key : List UInt8} (h : KeyAt zs A c key) (hz : ZOk zs) : key.length ≤ 1048 := by
  rcases h with ⟨_, _, rfl⟩ | ⟨z, hm, e⟩
  · exact Nat.zero_le _
  · obtain ⟨h1, h2⟩ := hz z hm
    rw [e] at h1
    have h1 : key = keyE z.1.e := h1
    rw [h1]; exact h2
set_option maxRecDepth 100000 in
set_option maxHeartbeats 4000000 in
theorem read_any {w x : World} {R g : Nat} {rest : List Ob} (h : OW w (blkO R g (.slice none 0 0) (.slice none 0 0) [] ++ rest) x) (b : List UInt8) (A : Option Addr) (n c N : Nat) (hn : n ≤ 1099511000000) (hN : N < 4294967296) (HS0 : ∀ z, Below w.heap.size w z → Sl z A n c b) :
  Calls Tryz.prog 193 #[.pointer (some ⟨g, 0, none⟩), .slice A n c, .int .i64 N] x (ReadP w R g rest b N) := by
 have HX := Lib.hid h
 have HS := Lib.hid HS0
 have HL : Hid (b.length = n) := Lib.hid (HS0 x h.up).rb.len
 clear h HS0
 go_enter Tryz.func193, Tryz.ntmps193
 go_wp2_with (first
  | (refine wl_alloc rfl rfl [.bool false] (.inr ⟨.bool false, (by kernel_rfl), rfl⟩) HX.out ?_; intro gk z1 hz _; replace HX := Lib.hid (hz.perm List.perm_append_comm); clear hz)
  | (refine wl_put1 rfl (.tmp 9) _ rfl HX.out 0 rfl 0 rfl (by decide) (.bool true) rfl (by kernel_rfl) rfl ?_; intro z2 hz _; have HX2 : Hid (OW w (boxO gk [.bool true] :: (blkO R g (.slice none 0 0) (.slice none 0 0) [] ++ rest)) z2) := Lib.hid hz; clear hz HX))
 go_loopw [7, 8, 19] (fun av kv i wr => ∃ (k a : Nat) (zs : List ZR) (lv sv : Value) (KA : Option Addr) (kl kc : Nat) (key : List UInt8), k ≤ N ∧ i = .int .i64 k ∧ av = .int .i64 a ∧ kv = .slice KA kl kc ∧ kl ≤ 1048 ∧ Hid (key.length = kl) ∧ Hid (KeyAt zs KA kc key) ∧ Hid (ZOk zs ∧ zs.length = k) ∧ Hid (rdF b k = some (entsZ zs, key, a)) ∧ Hid (OW w (boxO gk [.bool true] :: (blkO R g lv sv zs ++ rest)) wr)) (fun _ _ i _ => N - (intOf i).toNat)
 case atStart => exact ⟨0, 0, [], _, _, none, 0, 0, [], Nat.zero_le _, rfl, rfl, rfl, Nat.zero_le _, Lib.hid rfl, Lib.hid (.inl ⟨rfl, rfl, rfl⟩), Lib.hid ⟨(fun z h => by cases h), rfl⟩, Lib.hid rfl, HX2⟩
 case round =>
  clear HX2
  obtain ⟨k, a, zs, lv, sv, KA, kl, kc, key, hk, rfl, rfl, rfl, hkl, HKL, HKA, HZ, HRD, HX⟩ := hrel
  have hfail : Hid (∀ z os', OW w os' z → (blkO R g lv sv zs ++ rest).Sublist os' → rd1 b a key = none → k < N → ReadP w R g rest b N (.returned (.bool false)) z) := Lib.hid fun z os' h1 h2 h3 h4 => ⟨lv, sv, zs, h1.sub h2, HZ.out.1, .inr ⟨rdF_stop HRD.out h3 h4, rfl⟩⟩
  by_cases hlt : k < N
  case neg =>
   have hd : decide ((k : Int) < (N : Int)) = false := decide_eq_false (by omega)
   have hkN : k = N := by omega
   have HKN := Lib.hid hkN
   clear hkN
   go_wp2_with fail
   go_ret
   exact ⟨lv, sv, zs, HX.out.sub ((List.Sublist.refl _).cons _), HZ.out.1, .inl ⟨key, a, by rw [← HKN.out]; exact HRD.out, rfl⟩⟩
  have hd : decide ((k : Int) < (N : Int)) = true := decide_eq_true (by omega)
  obtain ⟨u, p1, e1, hR1⟩ : ∃ u p1 e1, readU b (a : Nat) = (u, p1, e1) := ⟨_, _, _, rfl⟩
  have R1 := Lib.hid hR1
  clear hR1
  by_cases he1 : e1 = 0
  case neg =>
   have HD1 : Hid (((e1 : Int) == 0) = false) := Lib.hid (beq_eq_false_iff_ne.2 (by omega))
   have HE := Lib.hid he1
   clear he1
   go_wp2_with (first
    | (go_at_call 137; go_must (refine (ru_any b A n c a _ (by omega) (HS.out _ HX.out.up).rb).mono ?_); rw [R1.out]; rintro r w1 ⟨rfl, rfl⟩)
    | (go_at_call 215; go_must (refine (need_any (e1 : Int) 0 HX.out rfl).mono ?_); rw [HD1.out]; rintro r x1 ⟨rfl, hz⟩; have HX1 : Hid (OW w (boxO gk [.bool false] :: (blkO R g lv sv zs ++ rest)) x1) := Lib.hid hz; clear hz))
   go_ret
   exact hfail.out _ _ HX1.out ((List.Sublist.refl _).cons _) (rd1_a R1.out HE.out) hlt
  have HD1 : Hid (((e1 : Int) == 0) = true) := Lib.hid (by rw [he1]; rfl)
  have HE1 := Lib.hid he1
  clear he1
  have hu64 : u < 18446744073709551616 := by have h1 := readU_val b (a : Nat); rw [R1.out] at h1; exact h1
  by_cases hu : kl < u
  case pos =>
   have hd2 : decide ((u : Int) > (kl : Int)) = true := decide_eq_true (by omega)
   go_wp2_with (first
    | (go_at_call 137; go_must (refine (ru_any b A n c a _ (by omega) (HS.out _ HX.out.up).rb).mono ?_); rw [R1.out]; rintro r w1 ⟨rfl, rfl⟩)
    | (go_at_call 215; go_must (refine (need_any (e1 : Int) 0 HX.out rfl).mono ?_); rw [HD1.out]; rintro r x1 ⟨rfl, hz⟩; have HX1 : Hid (OW w (boxO gk [.bool true] :: (blkO R g lv sv zs ++ rest)) x1) := Lib.hid hz; clear hz))
   go_ret
   exact hfail.out _ _ HX1.out ((List.Sublist.refl _).cons _) (rd1_b R1.out (by rw [HKL.out]; exact hu)) hlt
  have hd2 : decide ((u : Int) > (kl : Int)) = false := decide_eq_false (by omega)
  obtain ⟨k2, p2, e2, hR2⟩ : ∃ k2 p2 e2, readBy b (p1 : Nat) (n : Nat) = (k2, p2, e2) := ⟨_, _, _, rfl⟩
  have R2 := Lib.hid hR2
  obtain ⟨k2n, hk2n⟩ : ∃ z, z = k2.length := ⟨_, rfl⟩
  have HK2 := Lib.hid hk2n.symm
  have R1' : Hid (readU b (a : Nat) = (u, p1, 0)) := Lib.hid (by rw [← HE1.out]; exact R1.out)
  have R2L : Hid (readBy b (p1 : Nat) (b.length : Nat) = (k2, p2, e2)) := Lib.hid (by rw [HL.out]; exact R2.out)
  have hk2b : k2n ≤ 1099511000000 := by
   have h1 := readBy_le5 b (p1 : Int) (n : Int)
   rw [R2.out] at h1
   have h1 : k2.length ≤ b.length := h1
   have := HL.out
   omega
  obtain ⟨bo2, hbo2⟩ : ∃ z : Bool, ((e2 : Int) == 0) = z := ⟨_, rfl⟩
  have HD2 := Lib.hid hbo2
  clear hR2 hk2n hbo2
  have tk1 : True := trivial
  have tk2 : True := trivial
  go_upto_if 51 with (first
   | (go_at_call 137; go_must (refine (ru_any b A n c a _ (by omega) (HS.out _ HX.out.up).rb).mono ?_); rw [R1.out]; rintro r w1 ⟨rfl, rfl⟩)
   | (go_at_call 215; have _t := tk1; go_must (refine (need_any (e1 : Int) 0 HX.out rfl).mono ?_); rw [HD1.out]; rintro r x1 ⟨rfl, hz⟩; have HX1 : Hid (OW w (boxO gk [.bool true] :: (blkO R g lv sv zs ++ rest)) x1) := Lib.hid hz; clear hz tk1)
   | (go_at_call 138; go_must (refine (rby_any b A n c p1 n _ (HS.out _ HX1.out.up) (by omega) (by omega)).mono ?_); rw [R2.out]; rintro r x2 hp; obtain ⟨A3, c3, rfl, hs3, ho, hb⟩ := hp.at_ HK2.out rfl rfl; have HX2 := Lib.hid (HX1.out.addF9 (OW.byt1 hb ho)); clear hp ho hb hs3 HX1)
   | (go_at_call 215; have _t := tk2; go_must (refine (need_any (e2 : Int) 1 HX2.out rfl).mono ?_); rw [HD2.out]; rintro r x3 ⟨rfl, hz⟩; have HX3 : Hid (OW w (bytO 5 (A3, c3, k2) :: boxO gk [.bool bo2] :: (blkO R g lv sv zs ++ rest)) x3) := Lib.hid hz; clear hz tk2 HX2))
  clear HX
  cases bo2 with
  | false =>
   have hE2 : e2 ≠ 0 := fun h => by have h1 := HD2.out; rw [h] at h1; cases h1
   have HE2 := Lib.hid hE2
   clear hE2
   go_wp2_with fail
   go_ret
   exact hfail.out _ _ HX3.out (((List.Sublist.refl _).cons _).cons _) (rd1_c R1'.out (by rw [HKL.out]; omega) R2L.out HE2.out) hlt
  | true =>
  have HE2 : Hid (e2 = 0) := Lib.hid (by have h1 := HD2.out; rw [beq_iff_eq] at h1; omega)
  obtain ⟨vv, p3, e3, hR3⟩ : ∃ vv p3 e3, readBy b (p2 : Nat) 4096 = (vv, p3, e3) := ⟨_, _, _, rfl⟩
  have R3 := Lib.hid hR3
  obtain ⟨vn, hvn⟩ : ∃ z, z = vv.length := ⟨_, rfl⟩
  have HVN := Lib.hid hvn.symm
  obtain ⟨bo3, hbo3⟩ : ∃ z : Bool, ((e3 : Int) == 0) = z := ⟨_, rfl⟩
  have HD3 := Lib.hid hbo3
  clear hR3 hvn hbo3
  have R2' : Hid (readBy b (p1 : Nat) (b.length : Nat) = (k2, p2, 0)) := Lib.hid (by rw [R2L.out, HE2.out])
  have tk2 : True := trivial
  go_upto_if 62 with (first
   | (go_at_call 138; go_must (refine (rby_any b A n c p2 4096 _ (HS.out _ HX3.out.up) (by omega) (by omega)).mono ?_); rw [R3.out]; rintro r x4 hp; obtain ⟨A4, c4, rfl, hs4, ho, hb⟩ := hp.at_ HVN.out rfl rfl; have HX4 := Lib.hid (HX3.out.addF9 (OW.byt1 hb ho)); clear hp ho hb hs4)
   | (go_at_call 215; have _t := tk2; go_must (refine (need_any (e3 : Int) 2 HX4.out rfl).mono ?_); rw [HD3.out]; rintro r x5 ⟨rfl, hz⟩; have HX5 : Hid (OW w (bytO 5 (A4, c4, vv) :: bytO 5 (A3, c3, k2) :: boxO gk [.bool bo3] :: (blkO R g lv sv zs ++ rest)) x5) := Lib.hid hz; clear hz tk2))
  clear HX3
  cases bo3 with
  | false =>
   have hE3 : e3 ≠ 0 := fun h => by have h1 := HD3.out; rw [h] at h1; cases h1
   have HE3 := Lib.hid hE3
   clear hE3
   go_wp2_with fail
   go_ret
   exact hfail.out _ _ HX5.out ((((List.Sublist.refl _).cons _).cons _).cons _) (rd1_d R1'.out (by rw [HKL.out]; omega) R2'.out R3.out HE3.out) hlt
  | true =>
  have HE3 : Hid (e3 = 0) := Lib.hid (by have h1 := HD3.out; rw [beq_iff_eq] at h1; omega)
  have R3' : Hid (readBy b (p2 : Nat) 4096 = (vv, p3, 0)) := Lib.hid (by rw [R3.out, HE3.out])
  obtain ⟨K, hK⟩ : ∃ z, z = key.take u ++ k2 := ⟨_, rfl⟩
  obtain ⟨kn, hkn⟩ : ∃ z, z = K.length := ⟨_, rfl⟩
  obtain ⟨pe, pf, hP⟩ : ∃ pe pf, ParseKeyE K = (pe, pf) := ⟨_, _, rfl⟩
  obtain ⟨bo4, hbo4⟩ : ∃ z : Bool, (pf == 0) = z := ⟨_, rfl⟩
  have HK := Lib.hid hK
  have HKN := Lib.hid hkn.symm
  have HP := Lib.hid hP
  have HD4 := Lib.hid hbo4
  have hknb : kn ≤ 1099511001048 := by rw [hkn, hK, List.length_append, List.length_take]; have := HKL.out; have := HK2.out; omega
  have HFL : Hid ([key.take u, k2].flatten = K) := Lib.hid (by rw [hK]; simp)
  have hkcap : kl ≤ kc := by
   have h1 := (HKA.out.sl HKL.out HX5.out fun z hz => List.mem_cons_of_mem _ (List.mem_cons_of_mem _ (List.mem_cons_of_mem _ (List.mem_append_left _ (rowZ_mem hz (by simp [rowsZ])))))).cap
   exact h1
  have HSK : Hid (Sl x5 KA u kc (key.take u)) := Lib.hid ((HKA.out.sl HKL.out HX5.out fun z hz => List.mem_cons_of_mem _ (List.mem_cons_of_mem _ (List.mem_cons_of_mem _ (List.mem_append_left _ (rowZ_mem hz (by simp [rowsZ])))))).take (by omega))
  have HSR : Hid (Sl x5 A3 k2n c3 k2) := Lib.hid (HX5.out.sl (i := 1) rfl HK2.out)
  clear hK hkn hP hbo4
  have i1 : (0 : Int) ≤ (u : Int) := by omega
  have i2 : (u : Int) ≤ (kc : Int) := by omega
  have tk3 : True := trivial
  go_upto_if 77 with (first
   | (go_at_call 216; go_must (refine (sconcat_any [key.take u, k2] _ 2 2 _ (by omega) (by exact rbs_two HSK.out HSR.out _ _) (by rw [HFL.out, HKN.out]; omega)).mono ?_); rw [HFL.out]; rintro r x6 hp; obtain ⟨A5, c5, rfl, _, ho, hb⟩ := hp.at_ HKN.out; have HX6 := Lib.hid ((HX5.out.al (.cells #[.slice KA u kc, .slice A3 k2n c3] 34)).addF9 (OW.byt1 hb ho)); clear hp ho hb)
   | (go_at_call 92; go_must (refine (parsekey_any K A5 kn c5 _ (HX6.out.sl (i := 0) rfl HKN.out) (by omega)).mono ?_); rw [HP.out]; rintro r x7 ⟨A6, c6, B6, d6, D6, q6, rfl, hr, hb⟩; have HX7 := Lib.hid (HX6.out.addF9 (OW.rows1 hb hr)); clear hr hb)
   | (refine wl_alloc rfl rfl [.slice none 0 0, .int .i64 0, .slice none 0 0, .int .i64 0, .int .i64 0, .int .i64 0, .slice none 0 0] (.inl (by kernel_rfl)) HX7.out ?_; intro ge z8 hz _; have HX8 := Lib.hid (hz.perm List.perm_append_comm); clear hz)
   | (refine wl_put rfl (.tmp 16) (.tmp 72) rfl HX8.out 0 rfl rfl [.slice A6 pe.row.length c6, .int .i64 pe.fam, .slice B6 pe.qual.length d6, .int .i64 pe.ts, .int .i64 pe.seq, .int .i64 pe.kind, .slice D6 pe.val.length q6] rfl rfl (by kernel_rfl) (by simp [Value.oneCell']) ?_; intro z9 hz _; have HX9 := Lib.hid hz; clear hz HX8)
   | (go_at_call 215; have _t := tk3; go_must (refine (need_any pf 7 HX9.out rfl).mono ?_); rw [HD4.out]; rintro r x9 ⟨rfl, hz⟩; have HX10 : Hid (OW w (boxO ge [.slice A6 pe.row.length c6, .int .i64 pe.fam, .slice B6 pe.qual.length d6, .int .i64 pe.ts, .int .i64 pe.seq, .int .i64 pe.kind, .slice D6 pe.val.length q6] :: bytO 5 (A6, c6, pe.row) :: bytO 5 (B6, d6, pe.qual) :: bytO 5 (D6, q6, pe.val) :: bytO 5 (A5, c5, K) :: bytO 5 (A4, c4, vv) :: bytO 5 (A3, c3, k2) :: boxO gk [.bool bo4] :: (blkO R g lv sv zs ++ rest)) x9) := Lib.hid hz; clear hz tk3))
  clear HX5 HX6 HX7 HX9
  have HL1 : Hid (zs.length = k) := Lib.hid HZ.out.2
  cases bo4 with
  | false =>
   have hE4 : pf ≠ 0 := fun h => by have h1 := HD4.out; rw [h] at h1; cases h1
   have HE4 := Lib.hid hE4
   clear hE4
   go_wp2_with fail
   go_ret
   exact hfail.out _ _ HX10.out (.cons _ (.cons _ (.cons _ (.cons _ (.cons _ (.cons _ (.cons _ (.cons _ (List.Sublist.refl _))))))))) (rd1_e R1'.out (by rw [HKL.out]; omega) R2'.out R3'.out (by rw [← HK.out]; exact HP.out) HE4.out) hlt
  | true =>
  have hE4 : pf = 0 := by have h1 := HD4.out; rw [beq_iff_eq] at h1; exact h1
  have HPI := ParseKey_is (b := K) (by rw [HP.out]; exact hE4)
  rw [HP.out] at HPI
  have HPE := Lib.hid HPI
  have hkn3 : kn ≤ 1048 := by have h1 := keyE_len HPI.1; rw [HPI.2.1, HKN.out] at h1; exact h1
  have HRG : Hid (rdF b (k + 1) = some (entsZ zs ++ [{ pe with val := vv }], K, p3)) := Lib.hid (rdF_go HRD.out (by
   have h1 := rd1_ok (key := key) R1'.out (by rw [HKL.out]; omega) R2'.out R3'.out (by rw [← HK.out, HP.out, hE4])
   rw [← HK.out] at h1
   exact h1))
  clear hE4 HPI
  obtain ⟨LA, lc, hlv, _⟩ := own_slice (HX10.out.row (i := 9) rfl)
  obtain ⟨SA, sc, hsv, _⟩ := own_slice (HX10.out.row (i := 10) rfl)
  obtain ⟨M, hM⟩ : ∃ z, z = (zs.reverse.flatMap rowsZ).map (bytO 5) ++ rest := ⟨_, rfl⟩
  obtain ⟨EC, hEC⟩ : ∃ z, z = zs.flatMap (·.1.cells) := ⟨_, rfl⟩
  obtain ⟨KC, hKC⟩ : ∃ z, z = zs.map (valR ·.2) := ⟨_, rfl⟩
  have HX11 : Hid (OW w (boxO ge [.slice A6 pe.row.length c6, .int .i64 pe.fam, .slice B6 pe.qual.length d6, .int .i64 pe.ts, .int .i64 pe.seq, .int .i64 pe.kind, .slice D6 pe.val.length q6] :: bytO 5 (A6, c6, pe.row) :: bytO 5 (B6, d6, pe.qual) :: bytO 5 (D6, q6, pe.val) :: bytO 5 (A5, c5, K) :: bytO 5 (A4, c4, vv) :: bytO 5 (A3, c3, k2) :: boxO gk [.bool true] :: boxO g [i64v R, .slice LA k lc, .slice SA k sc] :: rowO 60 7 (.slice LA k lc) (k) (EC) :: rowO 34 1 (.slice SA k sc) (k) (KC) :: M) x9) := Lib.hid (by
   have h := HX10.out
   rw [hlv, hsv] at h
   unfold blkO at h
   rw [HL1.out, ← hEC, ← hKC, List.cons_append, List.cons_append, List.cons_append, ← hM] at h
   exact h)
  have HM := Lib.hid hM
  have HEC := Lib.hid hEC
  have HKC := Lib.hid hKC
  clear HX10 hM hEC hKC hlv hsv
  go_wp2_with (refine wl_put1 rfl (.tmp 79) (.tmp 78) rfl HX11.out 0 rfl 6 rfl (by show 6 < 7; decide) (.slice A4 vn c4) rfl (by kernel_rfl) rfl ?_; intro x10 hz _; have HX12 : Hid (OW w (boxO ge [.slice A6 pe.row.length c6, .int .i64 pe.fam, .slice B6 pe.qual.length d6, .int .i64 pe.ts, .int .i64 pe.seq, .int .i64 pe.kind, .slice A4 vn c4] :: bytO 5 (A6, c6, pe.row) :: bytO 5 (B6, d6, pe.qual) :: bytO 5 (D6, q6, pe.val) :: bytO 5 (A5, c5, K) :: bytO 5 (A4, c4, vv) :: bytO 5 (A3, c3, k2) :: boxO gk [.bool true] :: boxO g [i64v R, .slice LA k lc, .slice SA k sc] :: rowO 60 7 (.slice LA k lc) (k) (EC) :: rowO 34 1 (.slice SA k sc) (k) (KC) :: M) x10) := Lib.hid hz; clear hz HX11)
  refine lt_start [7, 10] (by kernel_rfl) ?_
  intro xd hd
  refine ⟨fun z => OW w (boxO ge [.slice A6 pe.row.length c6, .int .i64 pe.fam, .slice B6 pe.qual.length d6, .int .i64 pe.ts, .int .i64 pe.seq, .int .i64 pe.kind, .slice A4 vn c4] :: bytO 5 (A6, c6, pe.row) :: bytO 5 (B6, d6, pe.qual) :: bytO 5 (D6, q6, pe.val) :: bytO 5 (A5, c5, K) :: bytO 5 (A4, c4, vv) :: bytO 5 (A3, c3, k2) :: boxO gk [.bool true] :: boxO g [i64v R, .slice LA k lc, .slice SA k sc] :: rowO 60 7 (.slice LA k lc) (k) (EC) :: rowO 34 1 (.slice SA k sc) (k) (KC) :: M) z, ?_⟩
  have HS2 := Lib.hid (HX12.out.later hd)
  refine lp 0 rfl (v := ?_) (fun w => ?_) (fun _ => HS2.out) ?_
  rotate_left
  ·first | (go_simp; done) | (go_simp; with_reducible rfl)
  simp only [Act.put, ls1, ls2, ls3]
  refine lp 1 rfl (v := ?_) (fun w => ?_) (fun _ => HS2.out) ?_
  rotate_left
  ·first | (go_simp; done) | (go_simp; with_reducible rfl)
  simp only [Act.put, ls1, ls2, ls3]
  refine lp 2 rfl (v := ?_) (fun w => ?_) (fun _ => HS2.out) ?_
  rotate_left
  ·first | (go_simp; done) | (go_simp; with_reducible rfl)
  simp only [Act.put, ls1, ls2, ls3]
  refine lp 3 rfl (v := ?_) (fun w => ?_) (fun _ => HS2.out) ?_
  rotate_left
  ·first | (go_simp; done) | (go_simp; with_reducible rfl)
  simp only [Act.put, ls1, ls2, ls3]
  refine lq 4 [7, 8, 9, 10] rfl (yi_cell rfl rfl rfl (fun w hS => OW.cell hS (i := 8) (j := 1) rfl rfl) (fun w => Tryz.isAgg24 w)) HS2.out ?_
  simp only [Act.put, ls1, ls2, ls3]
  refine lq 5 [6, 7, 8, 9, 10] rfl (yi_row rfl rfl rfl (fun w hS => OW.range hS (i := 0) rfl) ent_row5) HS2.out ?_
  simp only [Act.put, ls1, ls2, ls3]
  refine lt_op 6 rfl (by kernel_rfl) rfl ?_
  refine wpo_build rfl #[.slice A6 pe.row.length c6, .int .i64 pe.fam, .slice B6 pe.qual.length d6, .int .i64 pe.ts, .int .i64 pe.seq, .int .i64 pe.kind, .slice A4 vn c4] Tryz.entsS (.agg #[.slice none 0 0, .int .i64 0, .slice none 0 0, .int .i64 0, .int .i64 0, .int .i64 0, .slice none 0 0]) (by kernel_rfl) (by decide) (by decide) (by decide) rfl (by kernel_rfl) HS2.out ?_
  intro g4 y4 hz hb
  have HR : Hid (Reads y4 y4.heap.size 7 (some ⟨g4, 0, none⟩) 1 [.slice A6 pe.row.length c6, .int .i64 pe.fam, .slice B6 pe.qual.length d6, .int .i64 pe.ts, .int .i64 pe.seq, .int .i64 pe.kind, .slice A4 vn c4]) := Lib.hid (Reads.own (OW.row (OW.right hz) (i := 0) rfl))
  replace HS2 := Lib.hid (HS2.out.later hb)
  clear hz hb
  refine ⟨fun _ => HS2.out, ?_⟩
  simp only [Act.put, ls1, ls2, ls3]
  refine lt_end 7 rfl (by kernel_rfl) rfl (by kernel_rfl) ?_
  refine wpo_append (.tmp 84) (.tmp 86) rfl Tryz.entsS HS2.out 9 rfl rfl _ (some ⟨g4, 0, none⟩) 1 1 [.slice A6 pe.row.length c6, .int .i64 pe.fam, .slice B6 pe.qual.length d6, .int .i64 pe.ts, .int .i64 pe.seq, .int .i64 pe.kind, .slice A4 vn c4] rfl HR.out (by simp [Value.oneCell']) (by unfold maxLen; omega) (by omega) ?_
  intro A7 c7 y5 hz _
  have HY := Lib.hid hz
  clear hz HR
  simp only [Act.put, ls1, ls2, ls3]
  refine lt_pureF 8 rfl (by kernel_rfl) (by kernel_rfl) (by kernel_rfl) (by kernel_rfl) (by kernel_rfl) (fun _ _ _ h => h) (v := ?_) (yi_run rfl (fun w => ?_)) ?_
  rotate_left
  ·first | (go_simp; done) | (go_simp; with_reducible rfl)
  simp only [Act.put, ls1, ls2, ls3]
  refine lt_pureF 9 rfl (by kernel_rfl) (by kernel_rfl) (by kernel_rfl) (by kernel_rfl) (by kernel_rfl) (fun _ _ _ h => h) (v := ?_) (yi_run rfl (fun w => ?_)) ?_
  rotate_left
  ·first | (go_simp; done) | (go_simp; with_reducible rfl)
  simp only [Act.put, ls1, ls2, ls3]
  refine lt_end 10 rfl (by kernel_rfl) rfl (by kernel_rfl) ?_
  refine wpo_put1 rfl HY.out 8 rfl 1 rfl (by show 1 < 3; decide) (.slice A7 (k + 1) c7) rfl (by kernel_rfl) rfl ?_
  intro y6 hz _
  replace HY : Hid (OW w (boxO ge [.slice A6 pe.row.length c6, .int .i64 pe.fam, .slice B6 pe.qual.length d6, .int .i64 pe.ts, .int .i64 pe.seq, .int .i64 pe.kind, .slice A4 vn c4] :: bytO 5 (A6, c6, pe.row) :: bytO 5 (B6, d6, pe.qual) :: bytO 5 (D6, q6, pe.val) :: bytO 5 (A5, c5, K) :: bytO 5 (A4, c4, vv) :: bytO 5 (A3, c3, k2) :: boxO gk [.bool true] :: boxO g [i64v R, .slice A7 (k + 1) c7, .slice SA k sc] :: rowO 60 7 (.slice A7 (k + 1) c7) (k + 1) (EC ++ [.slice A6 pe.row.length c6, .int .i64 pe.fam, .slice B6 pe.qual.length d6, .int .i64 pe.ts, .int .i64 pe.seq, .int .i64 pe.kind, .slice A4 vn c4]) :: rowO 34 1 (.slice SA k sc) (k) (KC) :: M) y6) := Lib.hid hz
  clear hz
  simp only [Act.put]
  refine lt_done (by kernel_rfl) ?_
  clear HS2
  have tk9 : True := trivial
  go_wp2_with (first
   | (refine wpList_load_cell rfl 88 (.tmp 93) rfl rfl (HY.out.cell (i := 8) (j := 2) rfl rfl) (fun w => Tryz.isAgg88 w) ?_)
   | (at_builtin; have _t := tk9; go_must (refine wl_append rfl (.tmp 94) (.tmp 96) rfl Tryz.keyS5 (HY.out.al (.cells #[.slice A5 kn c5] 34)) 10 rfl rfl _ (some ⟨y6.heap.size, 0, none⟩) 1 1 [.slice A5 kn c5] rfl (lit_one8 _ _ _ _ rfl) (by simp [Value.oneCell']) (by unfold maxLen; omega) (by omega) ?_); intro A8 c8 y7 hz _; have HQ := Lib.hid hz; clear hz tk9 HY)
   | (refine wl_put1 rfl (.tmp 99) (.tmp 97) rfl HQ.out 8 rfl 2 rfl (by show 2 < 3; decide) (.slice A8 (k + 1) c8) rfl (by kernel_rfl) rfl ?_; intro y8 hz _; have HQ2 : Hid (OW w (boxO ge [.slice A6 pe.row.length c6, .int .i64 pe.fam, .slice B6 pe.qual.length d6, .int .i64 pe.ts, .int .i64 pe.seq, .int .i64 pe.kind, .slice A4 vn c4] :: bytO 5 (A6, c6, pe.row) :: bytO 5 (B6, d6, pe.qual) :: bytO 5 (D6, q6, pe.val) :: bytO 5 (A5, c5, K) :: bytO 5 (A4, c4, vv) :: bytO 5 (A3, c3, k2) :: boxO gk [.bool true] :: boxO g [i64v R, .slice A7 (k + 1) c7, .slice A8 (k + 1) c8] :: rowO 60 7 (.slice A7 (k + 1) c7) (k + 1) (EC ++ [.slice A6 pe.row.length c6, .int .i64 pe.fam, .slice B6 pe.qual.length d6, .int .i64 pe.ts, .int .i64 pe.seq, .int .i64 pe.kind, .slice A4 vn c4]) :: rowO 34 1 (.slice A8 (k + 1) c8) (k + 1) (KC ++ [.slice A5 kn c5]) :: M) y8) := Lib.hid hz; clear hz HQ))
  go_roundw
  case rel =>
   refine ⟨k + 1, p3, zs ++ [(⟨A6, c6, B6, d6, A4, c4, { pe with val := vv }⟩, (A5, c5, K))], .slice A7 (k + 1) c7, .slice A8 (k + 1) c8, A5, kn, c5, K, by omega, by go_num, rfl, rfl, hkn3, HKN, Lib.hid (.inr ⟨_, List.mem_append_right _ (List.mem_singleton.2 rfl), rfl⟩), Lib.hid ⟨fun z hz => ?_, by rw [List.length_append, HL1.out]; rfl⟩, Lib.hid (by rw [entsZ_snoc]; exact HRG.out), Lib.hid ?_⟩
   ·rcases List.mem_append.1 hz with h1 | h1
    ·exact HZ.out.1 z h1
    ·obtain rfl := List.mem_singleton.1 h1
     exact ⟨HPE.out.2.1.symm, (show (keyE pe).length ≤ 1048 from keyE_len HPE.out.1)⟩
   ·have h := HQ2.out
    have h := (((((((h.front (i := 4) rfl).front (i := 5) rfl).front (i := 4) rfl).front (i := 4) rfl).front (i := 10) rfl).front (i := 10) rfl).front (i := 10) rfl).front (i := 10) rfl
    have e1 : (zs ++ [((⟨A6, c6, B6, d6, A4, c4, { pe with val := vv }⟩ : ER), (A5, c5, K))]).length = k + 1 := by rw [List.length_append, HL1.out]; rfl
    have e2 : (zs ++ [((⟨A6, c6, B6, d6, A4, c4, { pe with val := vv }⟩ : ER), (A5, c5, K))]).flatMap (·.1.cells) = EC ++ [.slice A6 pe.row.length c6, .int .i64 pe.fam, .slice B6 pe.qual.length d6, .int .i64 pe.ts, .int .i64 pe.seq, .int .i64 pe.kind, .slice A4 vn c4] := by
     rw [List.flatMap_append, HEC.out]; simp only [List.flatMap_cons, List.flatMap_nil, List.append_nil, ER.cells]; rw [HVN.out]
    have e3 : (zs ++ [((⟨A6, c6, B6, d6, A4, c4, { pe with val := vv }⟩ : ER), (A5, c5, K))]).map (valR ·.2) = KC ++ [.slice A5 kn c5] := by
     rw [List.map_append, HKC.out]; simp only [List.map_cons, List.map_nil, valR]; rw [HKN.out]
    unfold blkO
    rw [e1, e2, e3, List.reverse_append, List.flatMap_append, List.map_append, List.cons_append, List.cons_append, List.cons_append, List.append_assoc, ← HM.out]
    exact OW.sub h (.cons_cons _ (.cons_cons _ (.cons_cons _ (.cons_cons _ (.cons_cons _ (.cons_cons _ (.cons_cons _ (.cons_cons _ (.cons _ (.cons _ (.cons _ (List.Sublist.refl _))))))))))))
  case measure => simp [intOf]; omega
theorem rCheckE_any (e : Ent) (A : Option Addr) (n c : Nat) (B : Option Addr) (m d : Nat) (D : Option Addr) (v q : Nat) (w : World) (h : En w A n c B m d D v q e) : Calls Tryz.prog 96 #[entV A n c B m d D v q e] w fun r y => r = .returned (.int .i64 (checkE e)) ∧ Below w.heap.size w y := by
  have h1 := h.row.len
  have h2 := h.qual.len
  have h3 := h.val.len
  unfold checkE
  rw [h1, h2, h3]
  exact rCheck_any A n c e.fam B m d e.ts e.seq e.kind D v q w
theorem size_step (R : Nat) (s : BSt) (k v : List UInt8) : sizeS (stepB R s k v) = sizeS s + (if s.n % R = 0 then 4 else 0) + (rowK (alikeB R s k) k v).length := by
  have h1 : (stepB R s k v).body = s.body ++ rowK (alikeB R s k) k v := rfl
  have h2 : (stepB R s k v).places = placesB R s := rfl
  unfold sizeS
  rw [h1, h2, List.length_append]
  unfold placesB
  split
  · rw [List.length_append]; show _ + _ + 4 * (_ + 1) + 9 = _; omega
  · omega
theorem reads_drop {x : World} {B sz g o k N : Nat} {xs : List Value} (h : Reads x B sz (some ⟨g, o, none⟩) k xs) (hN : N < k) : Reads x B sz (some ⟨g, o + N * sz, none⟩) (k - N) (xs.drop (N * sz)) := by
  obtain ⟨b', o', e, hb, hc⟩ := h.2 (by omega)
  injection e with e; injection e with e1 e2 _
  subst e1 e2
  refine ⟨by rw [List.length_drop, h.1, Nat.sub_mul], fun _ => ⟨g, o + N * sz, rfl, hb, fun j u hu => ?_⟩⟩
  rw [List.getElem?_drop] at hu
  rw [Nat.add_assoc]
  exact hc _ u hu
theorem reads_drop0 {x : World} {B sz g k N : Nat} {xs : List Value} (h : Reads x B sz (some ⟨g, 0, none⟩) k xs) (hN : N < k) : Reads x B sz (some ⟨g, N * sz, none⟩) (k - N) (xs.drop (N * sz)) := by
  have := reads_drop h hN
  rwa [Nat.zero_add] at this
theorem cells_one {rs : List ER} {u : Value} (h : u ∈ rs.flatMap ER.cells) : u.oneCell' = true := by
  obtain ⟨r, _, hu⟩ := List.mem_flatMap.1 h
  simp only [ER.cells, List.mem_cons, List.not_mem_nil, or_false] at hu
  rcases hu with rfl | rfl | rfl | rfl | rfl | rfl | rfl <;> rfl
theorem flat7_drop (rs : List ER) (m : Nat) : (rs.flatMap ER.cells).drop (m * 7) = (rs.drop m).flatMap ER.cells := by
  induction rs generalizing m with
  | nil => simp
  | cons r rs ih =>
    cases m with
    | zero => simp
    | succ m =>
      rw [List.drop_succ_cons, List.flatMap_cons, List.drop_append, ER.len, List.drop_of_length_le (by rw [ER.len]; omega), show (m + 1) * 7 - 7 = m * 7 from by omega, ih, List.nil_append]
theorem OW.rowRange {w x : World} {os : List Ob} {i g c k j : Nat} {T : TypeId} {rs : List ER} {r : ER} (h : OW w os x) (hi : os[i]? = some (rowO T 7 (.slice (some ⟨g, 0, none⟩) k c) k (rs.flatMap ER.cells))) (hr : rs[j]? = some r) : x.rangeAt g (j * 7) r.cells := fun q v hq => by
  have hq7 : q < 7 := (List.getElem?_eq_some_iff.1 hq).1
  have hrow := h.row hi
  have hjl : j < rs.length := (List.getElem?_eq_some_iff.1 hr).1
  have hlen : (rs.flatMap ER.cells).length = k * 7 := hrow.1
  rw [flat7_len] at hlen
  rw [World.ownsRow.cellAt hrow (j * 7 + q) (by omega), flat7_at hr q hq7]; exact hq
structure Srt (w : World) (rs : List ER) (L : List Ent) : Prop where
  ents : rs.map ER.e = L
  en : ∀ r, r ∈ rs → ∀ z, Below w.heap.size w z → r.En z
theorem Srt.len {w : World} {rs : List ER} {L : List Ent} (h : Srt w rs L) : rs.length = L.length := by rw [← h.ents, List.length_map]
theorem Srt.at_ {w : World} {rs : List ER} {L : List Ent} (h : Srt w rs L) {j : Nat} {r : ER} (hr : rs[j]? = some r) : L[j]? = some r.e := by rw [← h.ents, List.getElem?_map, hr]; rfl
theorem Srt.ens {w x : World} {os : List Ob} {rs : List ER} {L : List Ent} {i c k : Nat} {A : Option Addr} {T : TypeId} (h : Srt w rs L) (hx : OW w os x) (hi : os[i]? = some (rowO T 7 (.slice A k c) k (rs.flatMap ER.cells))) : Ens x A k L := by
  rw [← h.ents]
  exact hx.ens hi fun r hr => h.en r hr x hx.up
theorem build_snoc {R : Nat} {L : List Ent} {e : Ent} (h0 : (buildK R [] L).1 = 0) : (buildK R [] (L ++ [e])).1 = addC R L e := by
  rw [buildK_app, if_pos h0, List.nil_append]
  unfold buildK
  split
  · rename_i h; rw [h]; rfl
  · rfl
theorem uintB_10 {v : Nat} (h : v ≤ 1000000) : (uintB v).length ≤ 10 := uintB_ten (by omega)
theorem rowK_le {al : Nat} {k v : List UInt8} (ha : al ≤ k.length) (hk : k.length ≤ 1048) (hv : v.length ≤ 4096) : (rowK al k v).length ≤ 5174 := by
  unfold rowK
  simp only [List.length_append, List.length_drop]
  have h1 := uintB_10 (v := al) (by omega)
  have h2 := uintB_10 (v := k.length - al) (by omega)
  have h3 := uintB_10 (v := v.length) (by omega)
  omega
theorem lastOk_of {L : List Ent} {e : Ent} (h : AscE (L ++ [e])) : lastOk L e = true := by
  unfold lastOk
  cases hl : L.getLast? with
  | none => rfl
  | some l =>
    have hm : l ∈ L := List.mem_of_getLast? hl
    exact decide_eq_true ((List.pairwise_append.1 h).2.2 l hm e (by simp))
theorem cut_bld {t : Nat} {L : List Ent} (ht : t ≤ 65536) (hc : ∀ e, e ∈ L → checkE e = 0) : ∀ c, c ∈ cutR t [] L → c ≠ [] ∧ (AscE c → (buildK 16 [] c).1 = 0) := by
  refine cutR_all t (E := fun e => checkE e = 0) (P := fun c => AscE c → (buildK 16 [] c).1 = 0) ?_ L [] hc (fun h => absurd rfl h) (fun _ => rfl)
  intro now e he hs hP ha
  have h0 := hP (List.pairwise_append.1 ha).1
  rw [build_snoc h0]
  have ho := ok_of he
  unfold addC
  rw [if_neg (by simp [he]), if_neg (by rw [lastOk_of ha]; decide), if_neg]
  rw [size_step]
  have h1 := (alike_le 16 (runB 16 now) (keyE e)).2
  have h2 := rowK_le h1 (keyE_len ho) ho.val.1
  have h3 : sizeS (runB 16 now) ≤ 65536 := by
    rcases hs with rfl | hs
    · decide
    · omega
  split <;> omega
theorem asc_parts : ∀ {cs : List (List Ent)}, AscE cs.flatten → (∀ c, c ∈ cs → AscE c) ∧ cs.Pairwise (fun a b => ∀ x, x ∈ a → ∀ y, y ∈ b → cmpE x y < 0)
  | [], _ => ⟨fun c h => (by cases h), List.Pairwise.nil⟩
  | c :: cs, h => by
    rw [List.flatten_cons] at h
    obtain ⟨h1, h2, h3⟩ := List.pairwise_append.1 h
    obtain ⟨h4, h5⟩ := asc_parts h2
    refine ⟨fun d hd => ?_, List.Pairwise.cons (fun d hd x hx y hy => h3 x hx y (List.mem_flatten.2 ⟨d, hd, hy⟩)) h5⟩
    rcases List.mem_cons.1 hd with rfl | hd
    · exact h1
    · exact h4 d hd
theorem lay_pos {c : List Ent} (h : c ≠ []) : 9 ≤ (layB 16 c).length := by rw [layB_len 16 h]; unfold sizeS; omega
theorem build_len {c : List Ent} (h : buildE5 16 c = (layB 16 c, 0)) (hn : c ≠ []) : (layB 16 c).length ≤ 131072 := by
  obtain ⟨_, _, h0, _, _, _⟩ := build_parts (R := 16) h
  have := buildK_size 16 c [] (by decide) h0
  rw [layB_len 16 hn]
  simpa using this
theorem chs_of : ∀ {cs : List (List Ent)} {p : Option (List UInt8)}, (∀ c, c ∈ cs → ChOk c) → cs.Pairwise (fun a b => ∀ x, x ∈ a → ∀ y, y ∈ b → cmpE x y < 0) → (∀ c, cs.head? = some c → behR p (firstK c) = false) → ChsOk p cs
  | [], _, _, _, _ => trivial
  | c :: cs, p, h, hp, h0 => by
    have hc := h c (.head _)
    obtain ⟨hp1, hp2⟩ := List.pairwise_cons.1 hp
    refine ⟨hc, h0 c rfl, by have := lay_pos hc.ne; omega, by have := build_len hc.bld hc.ne; omega, chs_of (fun d hd => h d (.tail _ hd)) hp2 fun d hd => ?_⟩
    have hdm : d ∈ cs := List.mem_of_head? hd
    have hdc := h d (.tail _ hdm)
    obtain ⟨a, _, ma, e1⟩ := hc.last
    obtain ⟨b, _, mb, e2⟩ := hdc.first
    have h1 := hp1 d hdm a ma b mb
    rw [e1, e2]
    show decide (0 ≤ cmpB (keyE a) (keyE b)) = false
    rw [key_sorts (ok_of (hc.chk a ma)) (ok_of (hdc.chk b mb))]
    exact decide_eq_false (by omega)
theorem cut_ch {index : Int} {t : Nat} {L : List Ent} (ht : t ≤ 65536) (h : LookOk index L) : (∀ c, c ∈ cutR t [] L → ChOk c) ∧ ChsOk none (cutR t [] L) := by
  have hf : (cutR t [] L).flatten = L := by rw [cutR_flat]; rfl
  have ha : AscE (cutR t [] L).flatten := by rw [hf]; exact h.ascE
  obtain ⟨h1, h2⟩ := asc_parts ha
  have hc : ∀ c, c ∈ cutR t [] L → ChOk c := fun c hc => by
    obtain ⟨hn, hb⟩ := cut_bld ht h.chk c hc
    have hcm : ∀ e, e ∈ c → e ∈ L := fun e he => by rw [← hf]; exact List.mem_flatten.2 ⟨c, hc, he⟩
    refine ⟨hn, fun e he => h.chk e (hcm e he), h1 c hc, ?_⟩
    have h0 := hb (h1 c hc)
    unfold buildE5
    rw [if_neg (by decide), if_pos (by exact h0)]
    unfold finE
    rw [if_neg hn]
    rfl
  exact ⟨hc, chs_of hc h2 fun c _ => rfl⟩
theorem cut_ne {t : Nat} {L : List Ent} (h : L ≠ []) : cutR t [] L ≠ [] := fun h0 => by
  have hf : (cutR t [] L).flatten = L := by rw [cutR_flat]; rfl
  rw [h0] at hf
  exact h hf.symm
theorem cut_count {t : Nat} {L : List Ent} (h : ∀ c, c ∈ cutR t [] L → c ≠ []) : (cutR t [] L).length ≤ L.length := by
  have hf : (cutR t [] L).flatten = L := by rw [cutR_flat]; rfl
  have hk : ∀ cs : List (List Ent), (∀ c, c ∈ cs → c ≠ []) → cs.length ≤ cs.flatten.length := by
    intro cs
    induction cs with
    | nil => intro _; exact Nat.le_refl _
    | cons c cs ih =>
      intro h
      have h1 := ih fun d hd => h d (.tail _ hd)
      have h2 : 0 < c.length := List.length_pos_iff.2 (h c (.head _))
      rw [List.flatten_cons, List.length_append, List.length_cons]
      omega
  have := hk _ h
  rwa [hf] at this
theorem sumdB_len (b : List UInt8) : (sumdB b).length = b.length + 4 := by unfold sumdB; rw [List.length_append, lowB_len]
theorem cutS_mid (p m r : List UInt8) {k n : Nat} (hk : k = p.length) (hn : n = m.length) : cutS (p ++ (m ++ r)) k n = m := by
  subst hk hn
  unfold cutS
  rw [List.drop_left' rfl, List.take_left' rfl]
theorem refuse_ok {o : OptR} {L : List Ent} (h : refuseR o L = 0) : optOk o = true ∧ L ≠ [] ∧ LookOk o.index L := by
  unfold refuseR at h
  split at h
  · cases h
  · rename_i h1
    split at h
    · cases h
    · rename_i h2
      exact ⟨by simpa using h1, h2, look_ok h⟩
theorem open_back {o : OptR} {L : List Ent} (h : refuseR o L = 0) (hn : L.length ≤ 1000000) (hl : (runBy o L).length ≤ 16777216) :
    openP (runBy o L) = some ⟨runBy o L, L.length, o.index.toNat, o.low.toNat, o.clock.toNat, filtR o L, pcsOf 8 (cutR o.block.toNat [] L)⟩ := by
  obtain ⟨h1, h2, h3⟩ := refuse_ok h
  obtain ⟨⟨b1, b2, b3, b4⟩, hse⟩ := optOk.iff h1
  obtain ⟨s1, s2, s3, s4, s5, s6⟩ := sealI.iff hse
  obtain ⟨cs, hcs⟩ : ∃ z, z = cutR o.block.toNat [] L := ⟨_, rfl⟩
  obtain ⟨hch, hchs⟩ := cut_ch (t := o.block.toNat) (by omega) h3
  have hne := cut_ne (t := o.block.toNat) h2
  have hct := cut_count fun c hc => (hch c hc).ne
  unfold runBy at hl ⊢
  rw [← hcs] at hch hchs hne hct hl ⊢
  have e1 : runC o L cs = headR cs ++ (sumdB (filtR o L) ++ (sumdB (indexR cs) ++ frameB (risBs (numsR o L cs)))) := by unfold runC; simp only [List.append_assoc]
  have e2 : runC o L cs = (headR cs ++ sumdB (filtR o L)) ++ (sumdB (indexR cs) ++ frameB (risBs (numsR o L cs))) := by unfold runC; simp only [List.append_assoc]
  have e3 : runC o L cs = headR cs ++ (filtR o L ++ (lowB (sumL (filtR o L)) ++ (sumdB (indexR cs) ++ frameB (risBs (numsR o L cs))))) := by unfold runC sumdB; simp only [List.append_assoc]
  have e4 : runC o L cs = (headR cs ++ sumdB (filtR o L)) ++ (indexR cs ++ (lowB (sumL (indexR cs)) ++ frameB (risBs (numsR o L cs)))) := by unfold runC sumdB; simp only [List.append_assoc]
  have hfl : (frameB (risBs (numsR o L cs))).length = 68 := by rw [frameB_length, risBs_len]; rfl
  have hL1 : (headR cs).length = 8 + (blocksR cs).length := by unfold headR; rw [List.length_append]; rfl
  have hL2 : (headR cs ++ sumdB (filtR o L)).length = (headR cs).length + (filtR o L).length + 4 := by rw [List.length_append, sumdB_len]; omega
  have hL3 : (runC o L cs).length = (headR cs).length + (filtR o L).length + 4 + (indexR cs).length + 72 := by
    rw [e2, List.length_append, hL2, List.length_append, sumdB_len, hfl]; omega
  have hns : ∀ v, v ∈ numsR o L cs → v < 9223372036854775808 := by
    intro v hv
    unfold numsR at hv
    simp only [List.mem_cons, List.not_mem_nil, or_false] at hv
    rcases hv with rfl | rfl | rfl | rfl | rfl | rfl | rfl <;> omega
  have hN := numsO_back (headR cs ++ sumdB (filtR o L) ++ sumdB (indexR cs)) (ns := numsR o L cs) rfl hns
  have e5 : runC o L cs = headR cs ++ sumdB (filtR o L) ++ sumdB (indexR cs) ++ frameB (risBs (numsR o L cs)) := rfl
  rw [← e5] at hN
  have hmag : (runC o L cs).take 8 = magR := by rw [e1]; unfold headR; rw [List.append_assoc]; exact List.take_left' (rfl : magR.length = 8)
  unfold openP
  rw [if_neg (fun hh => hh hmag), hN]
  show openN (runC o L cs) [L.length, o.index.toNat, o.low.toNat, o.clock.toNat, cs.length, (headR cs).length, (headR cs ++ sumdB (filtR o L)).length] = _
  unfold openN
  have c1 : cutS (runC o L cs) (headR cs).length ((headR cs ++ sumdB (filtR o L)).length - (headR cs).length) = sumdB (filtR o L) := by
    rw [e1]; exact cutS_mid _ _ _ rfl (by rw [List.length_append]; omega)
  have c2 : cutS (runC o L cs) (headR cs ++ sumdB (filtR o L)).length ((runC o L cs).length - 68 - (headR cs ++ sumdB (filtR o L)).length) = sumdB (indexR cs) := by
    have : (runC o L cs).length - 68 - (headR cs ++ sumdB (filtR o L)).length = (sumdB (indexR cs)).length := by rw [sumdB_len]; omega
    rw [this, e2]; exact cutS_mid _ _ _ rfl rfl
  have c3 : cutS (runC o L cs) (headR cs).length ((headR cs ++ sumdB (filtR o L)).length - (headR cs).length - 4) = filtR o L := by
    have : (headR cs ++ sumdB (filtR o L)).length - (headR cs).length - 4 = (filtR o L).length := by omega
    rw [this, e3]; exact cutS_mid _ _ _ rfl rfl
  have c4 : cutS (runC o L cs) (headR cs ++ sumdB (filtR o L)).length ((runC o L cs).length - 72 - (headR cs ++ sumdB (filtR o L)).length) = indexR cs := by
    have : (runC o L cs).length - 72 - (headR cs ++ sumdB (filtR o L)).length = (indexR cs).length := by omega
    rw [this, e4]; exact cutS_mid _ _ _ rfl rfl
  have hcl : 0 < cs.length := List.length_pos_iff.2 hne
  have hfi : filtR o L ≠ [] → isF (filtR o L) = true := by
    intro hf
    unfold filtR at hf ⊢
    by_cases hb : 0 < o.bits
    · rw [if_pos hb]
      refine buildB_isF ?_
      unfold buildE
      rw [if_neg (by omega), if_neg (by have := rowsE_le L; omega)]
    · rw [if_neg hb] at hf; exact absurd rfl hf
  have hse2 : sealI (o.index.toNat : Int) (o.low.toNat : Int) (o.clock.toNat : Int) = true := by
    rw [Int.toNat_of_nonneg s1, Int.toNat_of_nonneg s5, Int.toNat_of_nonneg (by omega)]; exact hse
  dsimp only
  rw [if_neg (by rintro (hh | hh | hh); rw [hse2] at hh; cases hh; omega; omega), if_neg (by omega), c1, c2, if_neg (by rintro (hh | hh); rw [unsB_back] at hh; cases hh; rw [unsB_back] at hh; cases hh), c3, if_neg (by rintro ⟨hh1, hh2⟩; rw [hfi hh1] at hh2; cases hh2), c4, pcsO_back cs hchs (by omega) hL1.symm]
theorem blk_back {r : RunR} {c : List Ent} {pre post : List UInt8} {lo hi : Nat} (hc : ChOk c) (hb : r.bytes = pre ++ (layB 16 c ++ post)) (hp : pre.length = lo) (hh : hi = lo + (layB 16 c).length) : blkR r ⟨firstK c, lastK c, lo, hi⟩ = some c := by
  have h1 : cutS r.bytes lo (hi - lo) = layB 16 c := by rw [hb]; exact cutS_mid _ _ _ hp.symm (by omega)
  have h2 := (openE_lay (R := 16) hc.bld).1
  unfold blkR
  dsimp only
  rw [h1, h2]
  simp
theorem allF_back {r : RunR} : ∀ (cs : List (List Ent)) (pre post : List UInt8) (at' : Nat), (∀ c, c ∈ cs → ChOk c) → r.bytes = pre ++ (blocksR cs ++ post) → pre.length = at' → allF r (pcsOf at' cs) = (cs.flatten, true)
  | [], _, _, _, _, _, _ => rfl
  | c :: cs, pre, post, at', h, hb, hp => by
    rw [blocksR_cons, List.append_assoc] at hb
    have h1 := blk_back (r := r) (lo := at') (h c (.head _)) hb hp rfl
    have h2 := allF_back (r := r) cs (pre ++ layB 16 c) post (at' + (layB 16 c).length) (fun d hd => h d (.tail _ hd)) (by rw [hb, List.append_assoc]) (by rw [List.length_append, hp])
    show (match blkR r ⟨firstK c, lastK c, at', at' + (layB 16 c).length⟩ with
      | none => ([], false)
      | some L => (L ++ (allF r (pcsOf (at' + (layB 16 c).length) cs)).1, (allF r (pcsOf (at' + (layB 16 c).length) cs)).2)) = _
    rw [h1, h2]
    rfl
theorem seekF_back {r : RunR} (e : Ent) : ∀ (cs : List (List Ent)) (pre post : List UInt8) (at' : Nat), (∀ c, c ∈ cs → ChOk c) → r.bytes = pre ++ (blocksR cs ++ post) → pre.length = at' → seekF r e (pcsOf at' cs) = (cs.flatten.filter (fun x => decide (0 ≤ cmpE x e)), true)
  | [], _, _, _, _, _, _ => rfl
  | c :: cs, pre, post, at', h, hb, hp => by
    rw [blocksR_cons, List.append_assoc] at hb
    have hc := h c (.head _)
    have h1 := blk_back (r := r) (lo := at') hc hb hp rfl
    have h2 := seekF_back (r := r) e cs (pre ++ layB 16 c) post (at' + (layB 16 c).length) (fun d hd => h d (.tail _ hd)) (by rw [hb, List.append_assoc]) (by rw [List.length_append, hp])
    obtain ⟨b, hbl, mb, e2⟩ := hc.last
    have hk : keyP (lastK c) = { b with val := [] } := by unfold keyP; rw [e2, keyP_key (hc.chk b mb)]
    have hk2 : cmpE (keyP (lastK c)) e = cmpE b e := by rw [hk]; rfl
    show (if cmpE (keyP (lastK c)) e < 0 then seekF r e (pcsOf (at' + (layB 16 c).length) cs) else match blkR r ⟨firstK c, lastK c, at', at' + (layB 16 c).length⟩ with
      | none => ([], false)
      | some L => (L.filter (fun x => decide (0 ≤ cmpE x e)) ++ (seekF r e (pcsOf (at' + (layB 16 c).length) cs)).1, (seekF r e (pcsOf (at' + (layB 16 c).length) cs)).2)) = _
    rw [h1, h2, hk2, List.flatten_cons, List.filter_append]
    split
    · rename_i hlt
      have hz : c.filter (fun x => decide (0 ≤ cmpE x e)) = [] := by
        rw [List.filter_eq_nil_iff]
        intro x hx
        obtain ⟨k, hk, rfl⟩ := List.getElem_of_mem hx
        obtain ⟨hl, hl2⟩ := List.getElem?_eq_some_iff.1 hbl
        have hxe : cmpE c[k] e < 0 := by
          by_cases hkl : k = c.length - 1
          · subst hkl; rw [hl2]; exact hlt
          · have hp := List.pairwise_iff_getElem.1 hc.asc k (c.length - 1) hk hl (by omega)
            rw [hl2] at hp
            exact cmpE_lt_trans hp hlt
        simp only [decide_eq_true_eq]
        omega
      rw [hz]; rfl
    · rfl
def brokenN (r : RunR) : List PcR → Nat → Option Nat
  | [], _ => none
  | p :: l, i => if (blkR r p).isNone then some i else brokenN r l (i + 1)
def rightR (r : RunR) (rows : List (List UInt8)) : Bool := decide (r.filt = []) || (List.range 20).any fun k => decide (buildE ((k + 1 : Nat) : Int) rows = 0 ∧ buildB ((k + 1 : Nat) : Int) rows = r.filt)
def fineR (r : RunR) (L : List Ent) : Bool := decide (L.length = r.count) && L.all (fun e => decide (e.seq ≤ 16 * (r.index : Int) + 15)) && rightR r (rowsE L)
def verR (r : RunR) : Int × Int := match brokenN r r.ps 0 with
  | some i => ((i : Int), 73)
  | none => if fineR r (allR r).1 = true then (-1, 0) else (-1, 72)
theorem broken_back {r : RunR} : ∀ (cs : List (List Ent)) (pre post : List UInt8) (at' i : Nat), (∀ c, c ∈ cs → ChOk c) → r.bytes = pre ++ (blocksR cs ++ post) → pre.length = at' → brokenN r (pcsOf at' cs) i = none
  | [], _, _, _, _, _, _, _ => rfl
  | c :: cs, pre, post, at', i, h, hb, hp => by
    rw [blocksR_cons, List.append_assoc] at hb
    have h1 := blk_back (r := r) (lo := at') (h c (.head _)) hb hp rfl
    have h2 := broken_back (r := r) cs (pre ++ layB 16 c) post (at' + (layB 16 c).length) (i + 1) (fun d hd => h d (.tail _ hd)) (by rw [hb, List.append_assoc]) (by rw [List.length_append, hp])
    show (if (blkR r ⟨firstK c, lastK c, at', at' + (layB 16 c).length⟩).isNone then some i else brokenN r (pcsOf (at' + (layB 16 c).length) cs) (i + 1)) = none
    rw [h1, h2]; rfl
def runW (o : OptR) (L : List Ent) : RunR := ⟨runBy o L, L.length, o.index.toNat, o.low.toNat, o.clock.toNat, filtR o L, pcsOf 8 (cutR o.block.toNat [] L)⟩
theorem runW_split (o : OptR) (L : List Ent) : ∃ post, (runW o L).bytes = magR ++ (blocksR (cutR o.block.toNat [] L) ++ post) :=
  ⟨sumdB (filtR o L) ++ (sumdB (indexR (cutR o.block.toNat [] L)) ++ frameB (risBs (numsR o L (cutR o.block.toNat [] L)))), by show runC o L _ = _; unfold runC headR; simp only [List.append_assoc]⟩
theorem written_tells {o : OptR} {L : List Ent} (h : refuseR o L = 0) (hn : L.length ≤ 1000000) :
    allR (runW o L) = (L, true) ∧ (∀ e, seekF (runW o L) e (runW o L).ps = (L.filter (fun x => decide (0 ≤ cmpE x e)), true)) ∧ verR (runW o L) = (-1, 0) := by
  obtain ⟨h1, h2, h3⟩ := refuse_ok h
  obtain ⟨⟨b1, b2, b3, b4⟩, hse⟩ := optOk.iff h1
  obtain ⟨s1, s2, s3, s4, s5, s6⟩ := sealI.iff hse
  obtain ⟨hch, _⟩ := cut_ch (t := o.block.toNat) (by omega) h3
  obtain ⟨post, hb⟩ := runW_split o L
  have hf : (cutR o.block.toNat [] L).flatten = L := by rw [cutR_flat]; rfl
  have ha : allR (runW o L) = (L, true) := by
    have := allF_back (r := runW o L) _ magR post 8 hch hb rfl
    rw [hf] at this; exact this
  refine ⟨ha, fun e => ?_, ?_⟩
  · have := seekF_back (r := runW o L) e _ magR post 8 hch hb rfl
    rw [hf] at this; exact this
  · have h4 : brokenN (runW o L) (runW o L).ps 0 = none := broken_back (r := runW o L) _ magR post 8 0 hch hb rfl
    unfold verR
    rw [h4, ha]
    dsimp only
    rw [if_pos]
    unfold fineR
    have f1 : decide (L.length = (runW o L).count) = true := decide_eq_true rfl
    have f2 : L.all (fun e => decide (e.seq ≤ 16 * ((runW o L).index : Int) + 15)) = true := by
      rw [List.all_eq_true]
      intro e he
      have := h3.seq e he
      have e1 : ((runW o L).index : Int) = o.index := Int.toNat_of_nonneg s1
      rw [e1]
      exact decide_eq_true this
    rw [f1, f2]
    show rightR (runW o L) (rowsE L) = true
    unfold rightR
    by_cases hb0 : 0 < o.bits
    · refine Bool.or_eq_true_iff.2 (.inr (List.any_eq_true.2 ⟨o.bits.toNat - 1, List.mem_range.2 (by omega), decide_eq_true ?_⟩))
      have e2 : ((o.bits.toNat - 1 + 1 : Nat) : Int) = o.bits := by omega
      rw [e2]
      refine ⟨?_, ?_⟩
      · unfold buildE
        rw [if_neg (by omega), if_neg (by have := rowsE_le L; omega)]
      · show buildB o.bits (rowsE L) = filtR o L
        unfold filtR; rw [if_pos hb0]
    · refine Bool.or_eq_true_iff.2 (.inl (decide_eq_true ?_))
      show filtR o L = []
      unfold filtR; rw [if_neg hb0]
def Bk5 (R : Nat) (L : List Ent) (g : Nat) (os : List Ob) : Prop := ∃ lv kv zs, os = blkO R g lv kv zs ∧ entsZ zs = L ∧ ZOk zs
def OpenP (b : List UInt8) (w : World) (e : Ending) (z : World) : Prop :=
  (∃ L g os, (openE b).1 = some L ∧ e = .returned (.tuple #[.pointer (some ⟨g, 0, none⟩), .int .i64 0]) ∧ Bk5 (resB b) L g os ∧ OW w os z) ∨
  ((openE b).1 = none ∧ e = .returned (.tuple #[.pointer none, .int .i64 (openE b).2]) ∧ Below w.heap.size w z)
theorem open_no {b : List UInt8} {w z : World} {k : Int} (h : openE b = (none, k)) (hb : Below w.heap.size w z) : OpenP b w (.returned (.tuple #[.pointer none, .int .i64 k])) z :=
  .inr ⟨by rw [h], by rw [h], hb⟩
theorem blk_ens {w x : World} {R g : Nat} {lv kv : Value} {zs : List ZR} {rest : List Ob} (h : OW w (blkO R g lv kv zs ++ rest) x) : ∃ A c, lv = .slice A zs.length c ∧ Ens x A zs.length (entsZ zs) := by
  obtain ⟨A, c, rfl, _⟩ := own_slice (h.row (i := 1) rfl)
  refine ⟨A, c, rfl, zs.map (·.1), by unfold entsZ; rw [List.map_map]; rfl, ?_, fun r hr => ?_⟩
  · have h1 := Reads.own (h.row (i := 1) rfl)
    have e : zs.flatMap (·.1.cells) = (zs.map (·.1)).flatMap ER.cells := by rw [List.flatMap_map]
    rw [e] at h1
    exact h1
  · obtain ⟨z, hz, rfl⟩ := List.mem_map.1 hr
    refine ⟨h.slm (T := 5) (List.mem_append_left _ (rowZ_mem hz (by simp [rowsZ]))) rfl, h.slm (T := 5) (List.mem_append_left _ (rowZ_mem hz (by simp [rowsZ]))) rfl, h.slm (T := 5) (List.mem_append_left _ (rowZ_mem hz (by simp [rowsZ]))) rfl⟩
theorem openR_zero {b : List UInt8} (h : resB b = 0) (r : Option (List Ent × List UInt8 × Nat)) : openR b r = (none, 51) := by
  cases r with
  | none => rfl
  | some r =>
    unfold openR
    simp only []
    rw [if_neg]
    rw [h]
    intro e
    unfold buildE5 at e
    rw [if_pos (.inl (by decide))] at e
    injection e with _ e
    cases e
theorem ReadP.form {w z : World} {R g N : Nat} {rest : List Ob} {b : List UInt8} {e : Ending} (h : ReadP w R g rest b N e z) : ∃ lv kv zs bo, e = .returned (.bool bo) ∧ OW w (blkO R g lv kv zs ++ rest) z ∧ ZOk zs ∧ (bo = true → ∃ key a, rdF b N = some (entsZ zs, key, a)) ∧ (bo = false → rdF b N = none) := by
  obtain ⟨lv, kv, zs, h1, h2, ⟨key, a, h3, h4⟩ | ⟨h3, h4⟩⟩ := h
  · exact ⟨lv, kv, zs, true, h4, h1, h2, (fun _ => ⟨key, a, h3⟩), fun h => by cases h⟩
  · exact ⟨lv, kv, zs, false, h4, h1, h2, (fun h => by cases h), fun _ => h3⟩
set_option maxRecDepth 100000 in
set_option maxHeartbeats 4000000 in
theorem open_any (b : List UInt8) (A : Option Addr) (n c : Nat) (w : World) (hs : Sl w A n c b) (ht : TabAt 0 w) :
  Calls Tryz.prog 149 #[.slice A n c] w (OpenP b w) := by
 have HL := Lib.hid hs.rb.len
 by_cases h1 : 131072 < n
 case pos =>
  have HP : Hid (openE b = (none, 2)) := Lib.hid (by unfold openE; rw [if_pos (by rw [HL.out]; exact h1)])
  have hd : decide ((n : Int) > 131072) = true := decide_eq_true (by omega)
  clear hs ht
  go_enter Tryz.func149, Tryz.ntmps149
  go_wp2_with fail
  go_ret2
  exact open_no HP.out (Below.refl _ _)
 have hd1 : decide ((n : Int) > 131072) = false := decide_eq_false (by omega)
 by_cases h2 : n < 9
 case pos =>
  have HP : Hid (openE b = (none, 51)) := Lib.hid (by unfold openE; rw [if_neg (by rw [HL.out]; exact h1), if_pos (by rw [HL.out]; exact h2)])
  have hd : decide ((n : Int) < 9) = true := decide_eq_true (by omega)
  clear hs ht
  go_enter Tryz.func149, Tryz.ntmps149
  go_wp2_with fail
  go_ret2
  exact open_no HP.out (Below.refl _ _)
 have hd2 : decide ((n : Int) < 9) = false := decide_eq_false (by omega)
 have HSM : Hid (∀ z, Below w.heap.size w z → Calls Tryz.prog 192 #[.slice A n c] z fun e w' => e = .returned (.bool (sumOkB b)) ∧ Below z.heap.size z w') := Lib.hid fun z hz => by
  unfold sumOkB
  rw [HL.out]
  exact summed_any b A n c z (hs.later hz) (by omega) (ht.later hz)
 cases h3 : sumOkB b with
 | false =>
  have HP : Hid (openE b = (none, 52)) := Lib.hid (by unfold openE; rw [if_neg (by rw [HL.out]; exact h1), if_neg (by rw [HL.out]; exact h2), if_pos h3])
  rw [h3] at HSM
  clear hs ht h3
  go_enter Tryz.func149, Tryz.ntmps149
  go_wp2_with (go_at_call 192; go_must (refine (HSM.out _ (Below.refl _ _)).mono ?_); rintro e z1 ⟨rfl, hb⟩; have HB := Lib.hid hb; clear hb)
  go_ret2
  exact open_no HP.out HB.out
 | true =>
 rw [h3] at HSM
 obtain ⟨k, rfl⟩ : ∃ k, n = k + 9 := ⟨n - 9, by omega⟩
 have HPE : Hid (openE b = openR b (rdF (b.take k) (cntB b))) := Lib.hid (by
  unfold openE
  rw [if_neg (by rw [HL.out]; exact h1), if_neg (by rw [HL.out]; exact h2), if_neg (by rw [h3]; decide), HL.out]; rfl)
 obtain ⟨N, hN⟩ : ∃ z, z = cntB b := ⟨_, rfl⟩
 obtain ⟨r, hr⟩ : ∃ z, z = resB b := ⟨_, rfl⟩
 have hN32 : N < 4294967296 := by rw [hN]; exact numF_lt _ _
 have hr8 : r ≤ 255 := by rw [hr]; unfold resB; have := (b[b.length - 5]?.getD 0).toNat_lt; omega
 obtain ⟨b1, o1, _, rfl, hbl, _, _⟩ := hs.rb.at_ (show 0 < k + 9 by omega)
 have HSL : Hid (∀ z, Below w.heap.size w z → Sl z (some ⟨b1, o1, none⟩) (k + 9) c b) := Lib.hid fun z hz => hs.later hz
 have HTK : Hid (∀ z, Below w.heap.size w z → Sl z (some ⟨b1, o1, none⟩) k c (b.take k)) := Lib.hid fun z hz => (hs.later hz).take (by omega)
 have HTB : Hid (∀ z, Below w.heap.size w z → TabAt 0 z) := Lib.hid fun z hz => ht.later hz
 have HCE : Hid (∀ i, i < 9 → ∀ z, Below w.heap.size w z → z.cell? ⟨b1, o1 + (k + i), none⟩ = some (.int .u8 ((b[k + i]?.getD 0).toNat : Int))) := Lib.hid fun i hi z hz =>
  (hs.later hz).rb.cell (k := k + i) (by rw [List.getElem?_eq_getElem (by have := HL.out; omega)]; rfl)
 have HM : Hid (bits .or .i64 (bits .or .i64 (bits .or .i64 (wrap64 (wrap64 ((b[k]?.getD 0).toNat : Int) * 16777216)) (wrap64 (wrap64 ((b[k + 1]?.getD 0).toNat : Int) * 65536))) (wrap64 (wrap64 ((b[k + 2]?.getD 0).toNat : Int) * 256))) (wrap64 ((b[k + 3]?.getD 0).toNat : Int)) = (N : Int)) := Lib.hid (by
  rw [numB_walk, hN]; unfold cntB; rw [HL.out]; rfl)
 have HR4 : Hid (((b[k + 4]?.getD 0).toNat : Int) = (r : Int)) := Lib.hid (by rw [hr]; unfold resB; rw [HL.out]; rfl)
 have hcap := hs.cap
 have hlim := hs.lim
 have c4 := HCE.out 4 (by omega) w (Below.refl _ _)
 rw [HR4.out] at c4
 have HN := Lib.hid hN
 have HR := Lib.hid hr
 have hk1 : k ≤ 131063 := by omega
 clear hs ht h3 hN hr hd1 hd2 h1 h2
 have hd1 : decide ((k : Int) + 9 > 131072) = false := decide_eq_false (by omega)
 have hd2 : decide ((k : Int) + 9 < 9) = false := decide_eq_false (by omega)
 go_enter Tryz.func149, Tryz.ntmps149
 go_upto_region 7 with (first
  | (go_at_call 192; go_must (refine (HSM.out _ (Below.refl _ _)).mono ?_); rintro e z1 ⟨rfl, hb⟩; have HB := Lib.hid hb; have HX0 := Lib.hid ((OW.nil w).later hb); have c4 := HCE.out 4 (by omega) z1 HB.out; rw [HR4.out] at c4; clear hb))
 have i1 : (0 : Int) ≤ (k : Int) + 4 := by omega
 have i2 : ((k : Int) + 4).toNat = k + 4 := by omega
 have i3 : (0 : Int) ≤ (k : Int) := by omega
 have i4 : (k : Int) ≤ (c : Int) := by omega
 have i5 : (k : Int) ≤ (k : Int) + 9 := by omega
 go_wp2_with (first
  | (refine wl_box rfl (.tmp 28) rfl [.int .i64 (r : Int), .slice none 0 0, .slice none 0 0] rfl HX0.out ?_; intro g x1 hz _; have HX := Lib.hid ((hz.nilRow 60 7).nilRow 34 1); clear hz HX0))
 have c0 := HCE.out 0 (by omega) x1 HX.out.up
 have c1 := HCE.out 1 (by omega) x1 HX.out.up
 have c2 := HCE.out 2 (by omega) x1 HX.out.up
 have c3 := HCE.out 3 (by omega) x1 HX.out.up
 rw [Nat.add_zero] at c0
 rw [← Nat.add_assoc] at c1 c2 c3
 clear c4 i1 i2 i5
 go_quiet (fail)
 rw [HM.out]
 have HXB : Hid (OW w (blkO r g (.slice none 0 0) (.slice none 0 0) [] ++ []) (x1.drewN nq)) := Lib.hid (by
  have h := HX.out.later (below_drewN (n := nq) (Below.refl _ _))
  exact h)
 clear c0 c1 c2 c3 HX HM HCE
 generalize x1.drewN nq = x2 at *
 by_cases hr0 : r = 0
 case pos =>
  have HP : Hid (openE b = (none, 51)) := Lib.hid (by rw [HPE.out]; exact openR_zero (by rw [← HR.out]; exact hr0) _)
  have hd0 : ((r : Int) == 0) = true := by rw [hr0]; rfl
  clear hr0
  go_wp2_with (refine wpList_load_cell rfl 3 (.tmp 59) rfl rfl (show _ = some (Value.int .i64 (r : Int)) from HXB.out.cell (i := 0) (j := 0) rfl rfl) (fun w => Tryz.isAgg3 w) ?_)
  go_ret2
  exact open_no HP.out HXB.out.up
 have hd0 : ((r : Int) == 0) = false := beq_eq_false_iff_ne.2 (by omega)
 clear hr0
 go_upto_if 72 with (first
  | (refine wpList_load_cell rfl 3 (.tmp 59) rfl rfl (show _ = some (Value.int .i64 (r : Int)) from HXB.out.cell (i := 0) (j := 0) rfl rfl) (fun w => Tryz.isAgg3 w) ?_)
  | (go_at_call 193; go_must (refine (read_any (R := r) (g := g) (rest := []) HXB.out (b.take k) _ k c N (by omega) hN32 HTK.out).mono ?_); intro e z3 hp; obtain ⟨lv, kv, zs, bo, rfl, hx, hz, ht, hf⟩ := hp.form; have HX3 := Lib.hid hx; have HZ := Lib.hid hz; have HBT := Lib.hid ht; have HBF := Lib.hid hf; clear hp hx hz ht hf HXB))
 cases bo with
 | false =>
  have HP : Hid (openE b = (none, 51)) := Lib.hid (by rw [HPE.out, ← HN.out, HBF.out rfl]; rfl)
  go_wp2_with fail
  go_ret2
  exact open_no HP.out HX3.out.up
 | true =>
 obtain ⟨LA, lc, rfl, _⟩ := blk_ens HX3.out
 obtain ⟨L, hL⟩ : ∃ z, z = entsZ zs := ⟨_, rfl⟩
 obtain ⟨m, hm⟩ : ∃ z, z = zs.length := ⟨_, rfl⟩
 obtain ⟨B, be, hB⟩ : ∃ B be, buildE5 (r : Int) L = (B, be) := ⟨_, _, rfl⟩
 have HPQ : Hid (openE b = if (B, be) = (b, 0) then (some L, 0) else (none, 51)) := Lib.hid (by
  obtain ⟨key, a, h⟩ := HBT.out rfl
  rw [HPE.out, ← HN.out, h, ← hB, hL, HR.out]; rfl)
 have HEN : Hid (∀ z, OW w (blkO r g (.slice LA m lc) kv zs ++ []) z → Ens z LA m L) := Lib.hid fun z hz => by
  rw [hm] at hz
  obtain ⟨A', c', e', h⟩ := blk_ens hz
  injection e' with e1 e2 e3
  rw [hm, hL, e1]; exact h
 have HX4 : Hid (OW w (blkO r g (.slice LA m lc) kv zs ++ []) z3) := Lib.hid (by rw [hm]; exact HX3.out)
 obtain ⟨bn, hbn⟩ : ∃ z, z = B.length := ⟨_, rfl⟩
 have HBN := Lib.hid hbn.symm
 have HB := Lib.hid hB
 have hmb : m ≤ 4294967296 := by
  obtain ⟨key, a, h⟩ := HBT.out rfl
  have h1 := rdF_len h
  unfold entsZ at h1
  rw [List.length_map] at h1
  omega
 have HL3 := Lib.hid hL
 have HM3 := Lib.hid hm
 clear hB hL hm hbn HX3
 go_wp2_with fail
 refine lt_start [] (by kernel_rfl) ?_
 intro xd hd
 refine ⟨fun z => OW w (blkO r g (.slice LA m lc) kv zs ++ []) z, ?_⟩
 have HS := Lib.hid (HX4.out.later hd)
 refine lp 0 rfl (v := ?_) (fun w => ?_) (fun _ => HS.out) ?_
 rotate_left
 ·first | (go_simp; done) | (go_simp; with_reducible rfl)
 simp only [Act.put, ls1, ls2, ls3]
 refine lp 1 rfl (v := ?_) (fun w => ?_) (fun _ => HS.out) ?_
 rotate_left
 ·first | (go_simp; done) | (go_simp; with_reducible rfl)
 simp only [Act.put, ls1, ls2, ls3]
 refine lp 2 rfl (v := ?_) (fun w => ?_) (fun _ => HS.out) ?_
 rotate_left
 ·first | (go_simp; done) | (go_simp; with_reducible rfl)
 simp only [Act.put, ls1, ls2, ls3]
 refine lq 3 [8, 9, 10, 11, 12, 13] rfl (yi_cell rfl rfl rfl (fun w hS => (show _ = some (Value.int .i64 (r : Int)) from OW.cell hS (i := 0) (j := 0) rfl rfl)) (fun w => Tryz.isAgg3 w)) HS.out ?_
 simp only [Act.put, ls1, ls2, ls3]
 refine lp 4 rfl (v := ?_) (fun w => ?_) (fun _ => HS.out) ?_
 rotate_left
 ·first | (go_simp; done) | (go_simp; with_reducible rfl)
 simp only [Act.put, ls1, ls2, ls3]
 refine lp 5 rfl (v := ?_) (fun w => ?_) (fun _ => HS.out) ?_
 rotate_left
 ·first | (go_simp; done) | (go_simp; with_reducible rfl)
 simp only [Act.put, ls1, ls2, ls3]
 refine lp 6 rfl (v := ?_) (fun w => ?_) (fun _ => HS.out) ?_
 rotate_left
 ·first | (go_simp; done) | (go_simp; with_reducible rfl)
 simp only [Act.put, ls1, ls2, ls3]
 refine lq 7 [8, 9, 10, 11, 12, 13] rfl (yi_cell rfl rfl rfl (fun w hS => OW.cell hS (i := 0) (j := 1) rfl rfl) (fun w => Tryz.isAgg24 w)) HS.out ?_
 simp only [Act.put, ls1, ls2, ls3]
 refine lt_call 8 rfl (by kernel_rfl) rfl rfl ⟨_, Tryz.func194, by decide, by kernel_rfl⟩ [.int .i64 (r : Int), .slice LA m lc] rfl ?_
 refine (build_any (r : Int) L LA m lc _ (HEN.out _ HS.out) (by omega) (HTB.out _ HS.out.up)).mono ?_
 rw [HB.out]
 intro e z5 hp
 obtain ⟨A5, c5, rfl, ho, _, hb⟩ := hp.at_ HBN.out rfl
 have HO5 := Lib.hid ho
 replace HS := Lib.hid (HS.out.later hb)
 have HD5 := Lib.hid (Below.refl z5.heap.size z5)
 clear hp ho hb
 refine ⟨_, rfl, fun _ => HS.out, ?_⟩
 simp only [Act.put, ls1, ls2, ls3]
 refine lp 9 rfl (v := ?_) (fun w => ?_) (fun _ => HS.out) ?_
 rotate_left
 ·first | (go_simp; done) | (go_simp; with_reducible rfl)
 simp only [Act.put, ls1, ls2, ls3]
 refine lp 10 rfl (v := ?_) (fun w => ?_) (fun _ => HS.out) ?_
 rotate_left
 ·first | (go_simp; done) | (go_simp; with_reducible rfl)
 simp only [Act.put, ls1, ls2, ls3]
 refine lp 11 rfl (v := ?_) (fun w => ?_) (fun _ => HS.out) ?_
 rotate_left
 ·first | (go_simp; done) | (go_simp; with_reducible rfl)
 simp only [Act.put, ls1, ls2, ls3]
 refine lp 12 rfl (v := ?_) (fun w => ?_) (fun _ => HS.out) ?_
 rotate_left
 ·first | (go_simp; done) | (go_simp; with_reducible rfl)
 simp only [Act.put, ls1, ls2, ls3]
 refine lp 13 rfl (v := ?_) (fun w => ?_) (fun _ => HS.out) ?_
 rotate_left
 ·first | (go_simp; done) | (go_simp; with_reducible rfl)
 simp only [Act.put, ls1, ls2, ls3]
 refine lt_done (by kernel_rfl) ?_
 have HS5 := HS
 clear HS
 have HX6 := Lib.hid HS5.out
 clear HS5
 have HB6 := HX6.out.up
 by_cases hbe : be = 0
 case neg =>
  have hd9 : (be != 0) = true := bne_iff_ne.2 hbe
  have HP : Hid (openE b = (none, 51)) := Lib.hid (by rw [HPQ.out, if_neg]; intro h; injection h with _ h; exact hbe h)
  clear hbe
  go_wp2_with fail
  go_ret2
  exact open_no HP.out HX6.out.up
 have hd9 : (be != 0) = false := by rw [hbe]; rfl
 have HBE := Lib.hid hbe
 clear hbe
 cases hq : B == b with
 | false =>
  have HP : Hid (openE b = (none, 51)) := Lib.hid (by rw [HPQ.out, if_neg]; intro h; injection h with h _; rw [h] at hq; simp at hq)
  have HQ := Lib.hid hq
  clear hq
  go_wp2_with (go_at_call 87; go_must (refine (equal_any B b _ _ bn _ (k + 9) _ _ (HO5.out.later HD5.out).rb (HSL.out _ HX6.out.up).rb).mono ?_); rw [HQ.out]; rintro e z6 ⟨rfl, rfl⟩)
  go_ret2
  exact open_no HP.out HX6.out.up
 | true =>
  have HP : Hid (openE b = (some L, 0)) := Lib.hid (by rw [HPQ.out, if_pos]; rw [beq_iff_eq] at hq; rw [hq, HBE.out])
  have HQ := Lib.hid hq
  clear hq
  go_wp2_with (go_at_call 87; go_must (refine (equal_any B b _ _ bn _ (k + 9) _ _ (HO5.out.later HD5.out).rb (HSL.out _ HX6.out.up).rb).mono ?_); rw [HQ.out]; rintro e z6 ⟨rfl, rfl⟩)
  go_ret2
  refine .inl ⟨L, g, blkO r g (.slice LA m lc) kv zs, by rw [HP.out], rfl, ?_, ?_⟩
  ·rw [← HR.out]; exact ⟨_, _, _, rfl, HL3.out.symm, HZ.out⟩
  ·have h := HX6.out; rw [List.append_nil] at h; exact h
structure BkR (x : World) (R g : Nat) (L : List Ent) : Prop where
  lt : g < x.heap.size
  c0 : x.cell? ⟨g, 0, none⟩ = some (.int .i64 (R : Int))
  c1 : ∃ A c, x.cell? ⟨g, 1, none⟩ = some (.slice A L.length c) ∧ Ens x A L.length L
  c2 : ∃ A c, x.cell? ⟨g, 2, none⟩ = some (.slice A L.length c) ∧ RBs x x.heap.size A L.length (L.map keyE)
theorem BkR.later {x y : World} {R g : Nat} {L : List Ent} (h : BkR x R g L) (hb : Below x.heap.size x y) : BkR y R g L := by
  obtain ⟨h0, h1, ⟨A, c, h2, h3⟩, ⟨B, d, h4, h5⟩⟩ := h
  exact ⟨Nat.lt_of_lt_of_le h0 hb.size, (hb.cell (p := ⟨g, 0, none⟩) h0).trans h1, ⟨A, c, (hb.cell (p := ⟨g, 1, none⟩) h0).trans h2, h3.later hb⟩, ⟨B, d, (hb.cell (p := ⟨g, 2, none⟩) h0).trans h4, h5.later hb⟩⟩
theorem Bk5.reads {w x : World} {R g : Nat} {L : List Ent} {os rest : List Ob} (hb : Bk5 R L g os) (h : OW w (os ++ rest) x) : BkR x R g L := by
  obtain ⟨lv, kv, zs, rfl, rfl, hz⟩ := hb
  obtain ⟨A, c, rfl, he⟩ := blk_ens h
  obtain ⟨B, d, rfl, _⟩ := own_slice (h.row (i := 2) rfl)
  have hl : (entsZ zs).length = zs.length := by unfold entsZ; rw [List.length_map]
  refine ⟨(h.box (i := 0) rfl).2.1, h.cell (i := 0) (j := 0) rfl rfl, ⟨A, c, by rw [hl]; exact h.cell (i := 0) (j := 1) rfl rfl, by rw [hl]; exact he⟩, ⟨B, d, by rw [hl]; exact h.cell (i := 0) (j := 2) rfl rfl, ?_⟩⟩
  rw [hl]
  refine ⟨zs.map (valR ·.2), Reads.own (h.row (i := 2) rfl), by unfold entsZ; simp, fun i k hk => ?_⟩
  unfold entsZ at hk
  rw [List.map_map, List.getElem?_map] at hk
  obtain ⟨z, hzi, hke⟩ := Option.map_eq_some_iff.1 hk
  have hm := List.mem_of_getElem? hzi
  have hkk : z.2.2.2 = k := by rw [(hz z hm).1]; exact hke
  have hsl := h.slm (T := 5) (A := z.2.1) (c := z.2.2.1) (l := z.2.2.2) (List.mem_append_left _ (rowZ_mem hm (by simp [rowsZ]))) rfl
  rw [hkk] at hsl
  exact ⟨z.2.1, z.2.2.1, by rw [List.getElem?_map, hzi]; simp only [Option.map_some, valR]; rw [hkk], hsl.cap, hsl.lim, hsl.nil, hsl.rb⟩
theorem sclip_any (A : Option Addr) (n c : Nat) (w : World) (hc : n ≤ c) (_hl : c ≤ 9223372036854775807) : Calls Tryz.prog 195 #[.slice A n c] w fun e w' => e = .returned (.slice A n n) ∧ w = w' := by
  have i1 : (0 : Int) ≤ (n : Int) := by omega
  have i2 : (n : Int) ≤ (c : Int) := by omega
  go_enter Tryz.func195, Tryz.ntmps195
  go_wp2_with fail
  go_ret
  exact ⟨rfl, rfl⟩
def OwnP (mk : Value → Value) (e : Ent) (w : World) (r : Ending) (x : World) : Prop :=
  ∃ A B D, r = .returned (mk (entV A e.row.length e.row.length B e.qual.length e.qual.length D e.val.length e.val.length e)) ∧ CAt A e.row ∧ CAt B e.qual ∧ CAt D e.val ∧ OW w [clipO A e.row, clipO B e.qual, clipO D e.val] x
theorem OwnP.en {e : Ent} {w x : World} {A B D : Option Addr} (ha : CAt A e.row) (hb : CAt B e.qual) (hd : CAt D e.val) (hn : e.row.length ≤ 9223372036854775807 ∧ e.qual.length ≤ 9223372036854775807 ∧ e.val.length ≤ 9223372036854775807) (h : OW w [clipO A e.row, clipO B e.qual, clipO D e.val] x) : En x A e.row.length e.row.length B e.qual.length e.qual.length D e.val.length e.val.length e :=
  ⟨h.clipSl ha (i := 0) rfl rfl hn.1, h.clipSl hb (i := 1) rfl rfl hn.2.1, h.clipSl hd (i := 2) rfl rfl hn.2.2⟩
theorem ptr3 (g : Nat) : ∀ k : Nat, k < 3 → ∀ w, (Instr.index 276 (.agg #[.pointer (some ⟨g, 0, none⟩), .pointer (some ⟨g, 2, none⟩), .pointer (some ⟨g, 6, none⟩)]) (.int .i64 (k : Int))).run Tryz.prog w = .ok (.pointer (some ⟨g, [0, 2, 6].getD k 0, none⟩)) w := fun k hk w => by
  match k, hk with
  | 0, _ => exact run_index_arr w _ 275 3 _ 0 _ (by kernel_rfl) (by kernel_rfl) (by kernel_rfl) (by decide) rfl
  | 1, _ => exact run_index_arr w _ 275 3 _ 1 _ (by kernel_rfl) (by kernel_rfl) (by kernel_rfl) (by decide) rfl
  | 2, _ => exact run_index_arr w _ 275 3 _ 2 _ (by kernel_rfl) (by kernel_rfl) (by kernel_rfl) (by decide) rfl
set_option maxRecDepth 100000 in
set_option maxHeartbeats 4000000 in
theorem own_any (e : Ent) (A : Option Addr) (n c : Nat) (B : Option Addr) (m d : Nat) (D : Option Addr) (v q : Nat) (w : World) (h : En w A n c B m d D v q e) (hn : n ≤ 140737488355000 ∧ m ≤ 140737488355000 ∧ v ≤ 140737488355000) :
    Calls Tryz.prog 153 #[entV A n c B m d D v q e] w (OwnP (fun v => v) e w) := by
  obtain ⟨hn1, hn2, hn3⟩ := hn
  have HE : Hid (∀ z, Below w.heap.size w z → En z A n c B m d D v q e) := Lib.hid fun z hz => h.later hz
  have HLR := Lib.hid h.row.rb.len
  have HLQ := Lib.hid h.qual.rb.len
  have HLV := Lib.hid h.val.rb.len
  clear h
  have HX := Lib.hid (OW.nil w)
  go_enter Tryz.func153, Tryz.ntmps153
  go_wp2_with (first
    | (refine wl_box rfl (.tmp 0) rfl [.slice A n c, .int .i64 e.fam, .slice B m d, .int .i64 e.ts, .int .i64 e.seq, .int .i64 e.kind, .slice D v q] rfl HX.out ?_; intro gb x1 hz _; replace HX := Lib.hid hz; clear hz)
    | (refine wl_alloc rfl rfl [.slice none 0 0, .int .i64 0, .slice none 0 0, .int .i64 0, .int .i64 0, .int .i64 0, .slice none 0 0] (.inl (by kernel_rfl)) HX.out ?_; intro gr x2 hz _; have HX0 := Lib.hid hz; clear hz HX))
  go_loopw [9] (fun i wr => ∃ k : Nat, k ≤ 3 ∧ i = .int .i64 k ∧ Hid (
    (k = 0 → OW w [boxO gb [.slice A n c, .int .i64 e.fam, .slice B m d, .int .i64 e.ts, .int .i64 e.seq, .int .i64 e.kind, .slice D v q], boxO gr [.slice none 0 0, .int .i64 0, .slice none 0 0, .int .i64 0, .int .i64 0, .int .i64 0, .slice none 0 0]] wr) ∧
    (k = 1 → ∃ A1, CAt A1 e.row ∧ OW w [boxO gb [.slice A1 n n, .int .i64 e.fam, .slice B m d, .int .i64 e.ts, .int .i64 e.seq, .int .i64 e.kind, .slice D v q], boxO gr [.slice none 0 0, .int .i64 0, .slice none 0 0, .int .i64 0, .int .i64 0, .int .i64 0, .slice none 0 0], clipO A1 e.row] wr) ∧
    (k = 2 → ∃ A1 B1, CAt A1 e.row ∧ CAt B1 e.qual ∧ OW w [boxO gb [.slice A1 n n, .int .i64 e.fam, .slice B1 m m, .int .i64 e.ts, .int .i64 e.seq, .int .i64 e.kind, .slice D v q], boxO gr [.slice none 0 0, .int .i64 0, .slice none 0 0, .int .i64 0, .int .i64 0, .int .i64 0, .slice none 0 0], clipO A1 e.row, clipO B1 e.qual] wr) ∧
    (k = 3 → ∃ A1 B1 D1, CAt A1 e.row ∧ CAt B1 e.qual ∧ CAt D1 e.val ∧ OW w [boxO gb [.slice A1 n n, .int .i64 e.fam, .slice B1 m m, .int .i64 e.ts, .int .i64 e.seq, .int .i64 e.kind, .slice D1 v v], boxO gr [.slice none 0 0, .int .i64 0, .slice none 0 0, .int .i64 0, .int .i64 0, .int .i64 0, .slice none 0 0], clipO A1 e.row, clipO B1 e.qual, clipO D1 e.val] wr))) (fun i _ => 3 - (intOf i).toNat)
  case atStart => exact ⟨0, by omega, rfl, Lib.hid ⟨fun _ => HX0.out, fun h => by omega, fun h => by omega, fun h => by omega⟩⟩
  case round =>
    clear HX0
    obtain ⟨k, hk, hi, HS⟩ := hrel
    have hk' : k = 0 ∨ k = 1 ∨ k = 2 ∨ k = 3 := by omega
    clear hk
    rcases hk' with rfl | rfl | rfl | rfl
    case inl =>
      replace hi : _ = Value.int .i64 0 := hi
      subst hi
      have hx := HS.out.1 rfl
      have HX := Lib.hid hx
      clear HS hx 
      have ix : ∀ w, (Instr.index 276 (.agg #[.pointer (some ⟨gb, 0, none⟩), .pointer (some ⟨gb, 2, none⟩), .pointer (some ⟨gb, 6, none⟩)]) (.int .i64 0)).run Tryz.prog w = .ok (.pointer (some ⟨gb, 0, none⟩)) w := fun w => ptr3 gb 0 (by decide) w
      have HN := Lib.hid (HX.out.nilB 5)
      go_wp2_with (first
        | (refine wpList_load_cell rfl 34 (.tmp 14) rfl rfl (HX.out.cell (i := 0) (j := 0) rfl rfl) (fun w => Tryz.isAgg34 w) ?_)
        | (at_builtin; go_must (refine wl_appB rfl (.const (.slice none 0 0)) (.tmp 15) rfl Tryz.u8s' HN.out 2 (n := 0) rfl rfl rfl _ _ n _ e.row rfl (HE.out _ HX.out.up).row.rb (by omega) ?_); intro A1 c9 x5 hz; rw [Nat.zero_add]; have HY := Lib.hid hz; have HCN := Lib.hid (cat_of HY.out (i := 2) rfl); have HY2 := Lib.hid (HY.out.clip (i := 2) rfl); have hcp := (HY.out.sl (i := 2) rfl (show ([] ++ e.row).length = n from HLR.out)); have hc1 := hcp.cap; have hc2 := hcp.lim; clear hz hcp HX HN HY)
        | (go_at_call 195; go_must (refine (sclip_any _ _ _ _ hc1 hc2).mono ?_); rintro r x6 ⟨rfl, rfl⟩)
        | (refine wl_put1 rfl (.tmp 18) (.tmp 17) rfl HY2.out 0 rfl 0 rfl (by show 0 < 7; decide) (.slice A1 n n) rfl (by kernel_rfl) rfl ?_; intro x7 hz _; have HX9 : Hid (OW w [boxO gb [.slice A1 n n, .int .i64 e.fam, .slice B m d, .int .i64 e.ts, .int .i64 e.seq, .int .i64 e.kind, .slice D v q], boxO gr [.slice none 0 0, .int .i64 0, .slice none 0 0, .int .i64 0, .int .i64 0, .int .i64 0, .slice none 0 0], clipO A1 e.row] x7) := Lib.hid hz; clear hz HY2))
      go_roundw
      case rel => exact ⟨1, by omega, rfl, Lib.hid ⟨(fun h => absurd h (by decide)), (fun _ => ⟨A1, HCN.out, HX9.out⟩), (fun h => absurd h (by decide)), (fun h => absurd h (by decide))⟩⟩
      case measure => decide
    case inr.inl =>
      replace hi : _ = Value.int .i64 1 := hi
      subst hi
      obtain ⟨A1, h0, hx⟩ := HS.out.2.1 rfl
      have HX := Lib.hid hx
      have HC0 := Lib.hid h0
      clear HS hx h0
      have ix : ∀ w, (Instr.index 276 (.agg #[.pointer (some ⟨gb, 0, none⟩), .pointer (some ⟨gb, 2, none⟩), .pointer (some ⟨gb, 6, none⟩)]) (.int .i64 1)).run Tryz.prog w = .ok (.pointer (some ⟨gb, 2, none⟩)) w := fun w => ptr3 gb 1 (by decide) w
      have HN := Lib.hid (HX.out.nilB 5)
      go_wp2_with (first
        | (refine wpList_load_cell rfl 34 (.tmp 14) rfl rfl (HX.out.cell (i := 0) (j := 2) rfl rfl) (fun w => Tryz.isAgg34 w) ?_)
        | (at_builtin; go_must (refine wl_appB rfl (.const (.slice none 0 0)) (.tmp 15) rfl Tryz.u8s' HN.out 3 (n := 0) rfl rfl rfl _ _ m _ e.qual rfl (HE.out _ HX.out.up).qual.rb (by omega) ?_); intro B1 c9 x5 hz; rw [Nat.zero_add]; have HY := Lib.hid hz; have HCN := Lib.hid (cat_of HY.out (i := 3) rfl); have HY2 := Lib.hid (HY.out.clip (i := 3) rfl); have hcp := (HY.out.sl (i := 3) rfl (show ([] ++ e.qual).length = m from HLQ.out)); have hc1 := hcp.cap; have hc2 := hcp.lim; clear hz hcp HX HN HY)
        | (go_at_call 195; go_must (refine (sclip_any _ _ _ _ hc1 hc2).mono ?_); rintro r x6 ⟨rfl, rfl⟩)
        | (refine wl_put1 rfl (.tmp 18) (.tmp 17) rfl HY2.out 0 rfl 2 rfl (by show 2 < 7; decide) (.slice B1 m m) rfl (by kernel_rfl) rfl ?_; intro x7 hz _; have HX9 : Hid (OW w [boxO gb [.slice A1 n n, .int .i64 e.fam, .slice B1 m m, .int .i64 e.ts, .int .i64 e.seq, .int .i64 e.kind, .slice D v q], boxO gr [.slice none 0 0, .int .i64 0, .slice none 0 0, .int .i64 0, .int .i64 0, .int .i64 0, .slice none 0 0], clipO A1 e.row, clipO B1 e.qual] x7) := Lib.hid hz; clear hz HY2))
      go_roundw
      case rel => exact ⟨2, by omega, rfl, Lib.hid ⟨(fun h => absurd h (by decide)), (fun h => absurd h (by decide)), (fun _ => ⟨A1, B1, HC0.out, HCN.out, HX9.out⟩), (fun h => absurd h (by decide))⟩⟩
      case measure => decide
    case inr.inr.inl =>
      replace hi : _ = Value.int .i64 2 := hi
      subst hi
      obtain ⟨A1, B1, h0, h1, hx⟩ := HS.out.2.2.1 rfl
      have HX := Lib.hid hx
      have HC0 := Lib.hid h0
      have HC1 := Lib.hid h1
      clear HS hx h0 h1
      have ix : ∀ w, (Instr.index 276 (.agg #[.pointer (some ⟨gb, 0, none⟩), .pointer (some ⟨gb, 2, none⟩), .pointer (some ⟨gb, 6, none⟩)]) (.int .i64 2)).run Tryz.prog w = .ok (.pointer (some ⟨gb, 6, none⟩)) w := fun w => ptr3 gb 2 (by decide) w
      have HN := Lib.hid (HX.out.nilB 5)
      go_wp2_with (first
        | (refine wpList_load_cell rfl 34 (.tmp 14) rfl rfl (HX.out.cell (i := 0) (j := 6) rfl rfl) (fun w => Tryz.isAgg34 w) ?_)
        | (at_builtin; go_must (refine wl_appB rfl (.const (.slice none 0 0)) (.tmp 15) rfl Tryz.u8s' HN.out 4 (n := 0) rfl rfl rfl _ _ v _ e.val rfl (HE.out _ HX.out.up).val.rb (by omega) ?_); intro D1 c9 x5 hz; rw [Nat.zero_add]; have HY := Lib.hid hz; have HCN := Lib.hid (cat_of HY.out (i := 4) rfl); have HY2 := Lib.hid (HY.out.clip (i := 4) rfl); have hcp := (HY.out.sl (i := 4) rfl (show ([] ++ e.val).length = v from HLV.out)); have hc1 := hcp.cap; have hc2 := hcp.lim; clear hz hcp HX HN HY)
        | (go_at_call 195; go_must (refine (sclip_any _ _ _ _ hc1 hc2).mono ?_); rintro r x6 ⟨rfl, rfl⟩)
        | (refine wl_put1 rfl (.tmp 18) (.tmp 17) rfl HY2.out 0 rfl 6 rfl (by show 6 < 7; decide) (.slice D1 v v) rfl (by kernel_rfl) rfl ?_; intro x7 hz _; have HX9 : Hid (OW w [boxO gb [.slice A1 n n, .int .i64 e.fam, .slice B1 m m, .int .i64 e.ts, .int .i64 e.seq, .int .i64 e.kind, .slice D1 v v], boxO gr [.slice none 0 0, .int .i64 0, .slice none 0 0, .int .i64 0, .int .i64 0, .int .i64 0, .slice none 0 0], clipO A1 e.row, clipO B1 e.qual, clipO D1 e.val] x7) := Lib.hid hz; clear hz HY2))
      go_roundw
      case rel => exact ⟨3, by omega, rfl, Lib.hid ⟨(fun h => absurd h (by decide)), (fun h => absurd h (by decide)), (fun h => absurd h (by decide)), (fun _ => ⟨A1, B1, D1, HC0.out, HC1.out, HCN.out, HX9.out⟩)⟩⟩
      case measure => decide
    case inr.inr.inr =>
      replace hi : _ = Value.int .i64 3 := hi
      subst hi
      obtain ⟨A1, B1, D1, h1, h2, h3, h4⟩ := HS.out.2.2.2 rfl
      have HC := Lib.hid (And.intro h1 (And.intro h2 h3))
      have HX := Lib.hid h4
      clear HS h1 h2 h3 h4
      go_wp2_with (first
        | (refine wpList_load_row7 rfl 60 (.tmp 1) rfl rfl (HX.out.range (i := 0) rfl) ent_row5 ?_)
        | (refine wl_put rfl (.tmp 2) (.tmp 20) rfl HX.out 1 rfl rfl [.slice A1 n n, .int .i64 e.fam, .slice B1 m m, .int .i64 e.ts, .int .i64 e.seq, .int .i64 e.kind, .slice D1 v v] rfl rfl (by kernel_rfl) (by simp [Value.oneCell']) ?_; intro x9 hz _; have HY := Lib.hid hz; clear hz))
      refine bodyPost_ret (results_rowL rfl _ _ gr [.slice A1 n n, .int .i64 e.fam, .slice B1 m m, .int .i64 e.ts, .int .i64 e.seq, .int .i64 e.kind, .slice D1 v v] rfl (HY.out.range (i := 1) rfl) (by kernel_rfl) (by kernel_rfl)) rfl ?_
      refine ⟨A1, B1, D1, by rw [HLR.out, HLQ.out, HLV.out], HC.out.1, HC.out.2.1, HC.out.2.2, HY.out.sub ((List.Sublist.refl _).cons _ |>.cons _)⟩
set_option maxRecDepth 100000 in
theorem len_any {x : World} {R g : Nat} {L : List Ent} (h : BkR x R g L) : Calls Tryz.prog 150 #[.pointer (some ⟨g, 0, none⟩)] x fun e x' => e = .returned (.int .i64 (L.length : Nat)) ∧ Below x.heap.size x x' := by
  obtain ⟨A, c, h1, _⟩ := h.c1
  obtain ⟨n, hn⟩ : ∃ z, z = L.length := ⟨_, rfl⟩
  rw [← hn] at h1 ⊢
  clear h hn
  go_enter Tryz.func150, Tryz.ntmps150
  go_wp2_with (refine wpList_load_cell rfl 24 (.tmp 5) rfl rfl h1 (fun w => Tryz.isAgg24 w) ?_)
  go_ret
  exact ⟨rfl, Below.refl _ _⟩
def AtP (L : List Ent) (i : Int) (x : World) (r : Ending) (z : World) : Prop :=
  (∃ (k : Nat) (e : Ent), i = (k : Int) ∧ L[k]? = some e ∧ OwnP (fun v => .tuple #[v, .int .i64 0]) e x r z) ∨
  ((i < 0 ∨ (L.length : Int) ≤ i) ∧ r = .returned (.tuple #[entV none 0 0 none 0 0 none 0 0 noEnt, .int .i64 1]) ∧ Below x.heap.size x z)
theorem OwnP.own {mk : Value → Value} {e : Ent} {w x : World} {r : Ending} (h : OwnP mk e w r x) : ∃ A B D, r = .returned (mk (entV A e.row.length e.row.length B e.qual.length e.qual.length D e.val.length e.val.length e)) ∧ CAt A e.row ∧ CAt B e.qual ∧ CAt D e.val ∧ OW w [clipO A e.row, clipO B e.qual, clipO D e.val] x := h
set_option maxRecDepth 100000 in
set_option maxHeartbeats 4000000 in
theorem at_any {x : World} {R g : Nat} {L : List Ent} (h : BkR x R g L) (hL : ∀ e, e ∈ L → e.row.length ≤ 140737488355000 ∧ e.qual.length ≤ 140737488355000 ∧ e.val.length ≤ 140737488355000) (i : Int) :
    Calls Tryz.prog 151 #[.pointer (some ⟨g, 0, none⟩), .int .i64 i] x (AtP L i x) := by
  have HR := Lib.hid (fun z (hz : Below x.heap.size x z) => h.later hz)
  obtain ⟨A, c, h1, he⟩ := h.c1
  obtain ⟨n, hn⟩ : ∃ z, z = L.length := ⟨_, rfl⟩
  rw [← hn] at h1 he
  have hg := h.lt
  have HC : Hid (∀ z, Below x.heap.size x z → z.cell? ⟨g, 1, none⟩ = some (.slice A n c)) := Lib.hid fun z hz => (hz.cell (p := ⟨g, 1, none⟩) hg).trans h1
  have HES : Hid (∀ z, Below x.heap.size x z → Ens z A n L) := Lib.hid fun z hz => he.later hz
  have HNL := Lib.hid hn
  have HLL := Lib.hid hL
  have HX := Lib.hid (OW.nil x)
  clear h h1 he hn hg hL
  by_cases hi : i < 0
  case pos =>
    have hd : decide (i < 0) = true := decide_eq_true hi
    go_enter Tryz.func151, Tryz.ntmps151
    go_wp2_with (first
      | (refine wl_alloc rfl rfl [.slice none 0 0, .int .i64 0, .slice none 0 0, .int .i64 0, .int .i64 0, .int .i64 0, .slice none 0 0] (.inl (by kernel_rfl)) HX.out ?_; intro gr x2 hz _; replace HX := Lib.hid hz; clear hz)
      | (refine wl_put rfl (.tmp 4) (.tmp 17) rfl HX.out 0 rfl rfl [.slice none 0 0, .int .i64 0, .slice none 0 0, .int .i64 0, .int .i64 0, .int .i64 0, .slice none 0 0] rfl rfl (by kernel_rfl) (by simp [Value.oneCell']) ?_; intro x9 hz _; have HY := Lib.hid hz; clear hz))
    refine bodyPost_ret (results_rowL1 rfl _ _ gr [.slice none 0 0, .int .i64 0, .slice none 0 0, .int .i64 0, .int .i64 0, .int .i64 0, .slice none 0 0] rfl (HY.out.range (i := 0) rfl) (by kernel_rfl) (by kernel_rfl)) rfl ?_
    exact .inr ⟨.inl hi, rfl, HY.out.up⟩
  have hd : decide (i < 0) = false := decide_eq_false hi
  obtain ⟨k, rfl⟩ : ∃ k : Nat, i = (k : Int) := ⟨i.toNat, by omega⟩
  by_cases hk : n ≤ k
  case pos =>
    have hd2 : decide ((k : Int) ≥ (n : Int)) = true := decide_eq_true (by omega)
    have HK : Hid (n ≤ k) := Lib.hid hk
    go_enter Tryz.func151, Tryz.ntmps151
    go_wp2_with (first
      | (refine wl_alloc rfl rfl [.slice none 0 0, .int .i64 0, .slice none 0 0, .int .i64 0, .int .i64 0, .int .i64 0, .slice none 0 0] (.inl (by kernel_rfl)) HX.out ?_; intro gr x2 hz _; replace HX := Lib.hid hz; clear hz)
      | (refine wpList_load_cell rfl 24 (.tmp 12) rfl rfl (HC.out _ HX.out.up) (fun w => Tryz.isAgg24 w) ?_)
      | (refine wl_put rfl (.tmp 4) (.tmp 17) rfl HX.out 0 rfl rfl [.slice none 0 0, .int .i64 0, .slice none 0 0, .int .i64 0, .int .i64 0, .int .i64 0, .slice none 0 0] rfl rfl (by kernel_rfl) (by simp [Value.oneCell']) ?_; intro x9 hz _; have HY := Lib.hid hz; clear hz))
    refine bodyPost_ret (results_rowL1 rfl _ _ gr [.slice none 0 0, .int .i64 0, .slice none 0 0, .int .i64 0, .int .i64 0, .int .i64 0, .slice none 0 0] rfl (HY.out.range (i := 0) rfl) (by kernel_rfl) (by kernel_rfl)) rfl ?_
    exact .inr ⟨.inr (by have := HK.out; rw [← HNL.out]; omega), rfl, HY.out.up⟩
  have hd2 : decide ((k : Int) ≥ (n : Int)) = false := decide_eq_false (by omega)
  obtain ⟨b, o, Ar, ec, B, d, D, q, e, rfl, hbl, hek, hrg, hen⟩ := (HES.out x (Below.refl _ _)).at_ (show k < n by omega)
  have HRG : Hid (∀ z, Below x.heap.size x z → z.rangeAt b (o + k * 7) [.slice Ar e.row.length ec, .int .i64 e.fam, .slice B e.qual.length d, .int .i64 e.ts, .int .i64 e.seq, .int .i64 e.kind, .slice D e.val.length q]) := Lib.hid fun z hz j v hj => (hz.cell (p := ⟨b, _, none⟩) hbl).trans (hrg j v hj)
  have HEN : Hid (∀ z, Below x.heap.size x z → En z Ar e.row.length ec B e.qual.length d D e.val.length q e) := Lib.hid fun z hz => hen.later hz
  have HEK := Lib.hid hek
  have HEB := Lib.hid (HLL.out e (List.mem_of_getElem? hek))
  have i1 : (0 : Int) ≤ (k : Int) := by omega
  have i2 : (k : Int) < (n : Int) := by omega
  clear hek hrg hen
  go_enter Tryz.func151, Tryz.ntmps151
  go_wp2_with (first
    | (refine wl_alloc rfl rfl [.slice none 0 0, .int .i64 0, .slice none 0 0, .int .i64 0, .int .i64 0, .int .i64 0, .slice none 0 0] (.inl (by kernel_rfl)) HX.out ?_; intro gr x2 hz _; replace HX := Lib.hid hz; clear hz)
    | (refine wpList_load_cell rfl 24 (.tmp 12) rfl rfl (HC.out _ HX.out.up) (fun w => Tryz.isAgg24 w) ?_)
    | (refine wpList_load_cell rfl 24 (.tmp 20) rfl rfl (HC.out _ HX.out.up) (fun w => Tryz.isAgg24 w) ?_)
    | (refine wpList_load_at rfl 60 (.tmp 23) rfl rfl (HRG.out _ HX.out.up) ent_row5 ?_)
    | (go_at_call 153; go_must (refine (own_any e Ar _ ec B _ d D _ q _ (HEN.out _ HX.out.up) HEB.out).mono ?_); rintro r x5 ⟨A1, B1, D1, rfl, hc1, hc2, hc3, hx⟩; have HC1 := Lib.hid (And.intro hc1 (And.intro hc2 hc3)); have HY := Lib.hid (HX.out.app hx); clear hc1 hc2 hc3 hx HX)
    | (refine wl_put rfl (.tmp 4) (.tmp 25) rfl HY.out 0 rfl rfl [.slice A1 e.row.length e.row.length, .int .i64 e.fam, .slice B1 e.qual.length e.qual.length, .int .i64 e.ts, .int .i64 e.seq, .int .i64 e.kind, .slice D1 e.val.length e.val.length] rfl rfl (by kernel_rfl) (by simp [Value.oneCell']) ?_; intro x9 hz _; have HQ := Lib.hid hz; clear hz))
  refine bodyPost_ret (results_rowL1 rfl _ _ gr [.slice A1 e.row.length e.row.length, .int .i64 e.fam, .slice B1 e.qual.length e.qual.length, .int .i64 e.ts, .int .i64 e.seq, .int .i64 e.kind, .slice D1 e.val.length e.val.length] rfl (HQ.out.range (i := 0) rfl) (by kernel_rfl) (by kernel_rfl)) rfl ?_
  exact .inl ⟨k, e, rfl, HEK.out, A1, B1, D1, rfl, HC1.out.1, HC1.out.2.1, HC1.out.2.2, HQ.out.sub ((List.Sublist.refl _).cons _)⟩
theorem open_none {b : List UInt8} {k : Int} (ho : openE b = (none, k)) (A : Option Addr) (n c : Nat) (w : World) (hs : Sl w A n c b) (ht : TabAt 0 w) :
    Calls Tryz.prog 149 #[.slice A n c] w fun e z => e = .returned (.tuple #[.pointer none, .int .i64 k]) ∧ Below w.heap.size w z :=
  (open_any b A n c w hs ht).mono fun e z h => by
    rcases h with ⟨L', g, os, h1, _⟩ | ⟨_, h2, h3⟩
    · rw [ho] at h1; cases h1
    · rw [ho] at h2; exact ⟨h2, h3⟩
theorem at_in {x : World} {R g : Nat} {L : List Ent} (h : BkR x R g L) (hL : ∀ e, e ∈ L → e.row.length ≤ 140737488355000 ∧ e.qual.length ≤ 140737488355000 ∧ e.val.length ≤ 140737488355000) {k : Nat} {e : Ent} (hk : L[k]? = some e) :
    Calls Tryz.prog 151 #[.pointer (some ⟨g, 0, none⟩), .int .i64 k] x (OwnP (fun v => .tuple #[v, .int .i64 0]) e x) :=
  (at_any h hL (k : Int)).mono fun r z hp => by
    rcases hp with ⟨k', e', h1, h2, h3⟩ | ⟨h1, _⟩
    · obtain rfl : k = k' := by omega
      rw [hk] at h2
      injection h2 with h2
      subst h2
      exact h3
    · have := (List.getElem?_eq_some_iff.1 hk).1; omega
def HandE (e : Ent) (vs : Array Value) (W W1 : World) : Prop := ∃ A B D, vs = #[entV A e.row.length e.row.length B e.qual.length e.qual.length D e.val.length e.val.length e] ∧ CAt A e.row ∧ CAt B e.qual ∧ CAt D e.val ∧ OW W [clipO A e.row, clipO B e.qual, clipO D e.val] W1
theorem HandE.ok {e : Ent} {vs : Array Value} {W W1 : World} (h : HandE e vs W W1) : vs.size = 1 ∧ Below W.heap.size W W1 := by
  obtain ⟨A, B, D, rfl, _, _, _, h⟩ := h
  exact ⟨rfl, h.up⟩
theorem open_bk {b : List UInt8} {L : List Ent} (ho : openE b = (some L, 0)) (A : Option Addr) (n c : Nat) (w : World) (hs : Sl w A n c b) (ht : TabAt 0 w) :
    Calls Tryz.prog 149 #[.slice A n c] w fun e z => ∃ g os, e = .returned (.tuple #[.pointer (some ⟨g, 0, none⟩), .int .i64 0]) ∧ Bk5 (resB b) L g os ∧ OW w os z :=
  (open_any b A n c w hs ht).mono fun e z h => by
    rcases h with ⟨L', g, os, h1, h2, h3, h4⟩ | ⟨h1, _⟩
    · rw [ho] at h1
      injection h1 with h1
      subst h1
      exact ⟨g, os, h2, h3, h4⟩
    · rw [ho] at h1; cases h1
theorem ok_lens {e : Ent} (h : checkE e = 0) : e.row.length ≤ 140737488355000 ∧ e.qual.length ≤ 140737488355000 ∧ e.val.length ≤ 140737488355000 := by
  have h1 := ok_of h
  have h2 := h1.row
  have h3 := h1.qual
  have h4 := h1.val
  omega
set_option maxRecDepth 100000 in
set_option maxHeartbeats 400000 in
theorem halves_any (l : List UInt8) (A : Option Addr) (n c : Nat) (w : World) (hm : n ≤ 9223372036854775807) (hr : RB w w.heap.size A n l) :
    Calls Tryz.prog 208 #[.slice A n c] w fun e w' => e = .returned (.agg #[.int .u32 (hHi l), .int .u32 (hLo l)]) ∧ Below w.heap.size w w' := by
  go_enter Tryz.func208, Tryz.ntmps208
  go_wp2
  go_loop [3, 8] (fun h i => ∃ k : Nat, k ≤ n ∧ i = .int .i64 k ∧ ∃ H : Nat, h = .int .u64 H ∧ Hid (H = hashN (l.take k))) (fun _ i => n - (intOf i).toNat)
  case atStart => exact ⟨0, Nat.zero_le _, rfl, hashN (l.take 0), rfl, Lib.hid rfl⟩
  case round =>
    obtain ⟨k, hk, rfl, H, rfl, hH⟩ := hrel
    by_cases hlt : k < n
    · obtain ⟨b, o, x, rfl, hb, hx, hc⟩ := hr.at_ hlt
      have hne : w.heap.size ≠ b := by omega
      have hs : Hid (((hStep H x : Nat) : Int) = IntKind.u64.wrap (bits .xor .u64 (H : Int) (IntKind.u64.wrap (x.toNat : Int)) * 1099511628211)) := Lib.hid (hstep_walk H x (by rw [hH.out]; exact hashN_lt _)).symm
      go_wp2
      go_round
      case rel => exact ⟨k + 1, by omega, by go_num, hStep H x, by rw [hs.out], Lib.hid (by rw [take_snoc hx, hashN_snoc, ← hH.out])⟩
      case measure => simp [intOf]; omega
    · have e : H = hashN l := by rw [hH.out, take_all (by rw [hr.len]; omega)]
      have E := Lib.hid e
      have h1 : ((hHi l : Nat) : Int) = (H : Int) / 4294967296 % 4294967296 := by
        have := hHi_lt l; rw [hHi_walk, e]; unfold hHi at this ⊢; omega
      have h2 : ((hLo l : Nat) : Int) = bits .or .u32 ((H : Int) % 4294967296) 1 := by rw [hLo_walk, e]; rfl
      have H1 := Lib.hid h1
      have H2 := Lib.hid h2
      clear e h1 h2
      go_wp2
      refine bodyPost_ret (v := .agg #[.int .u32 (hHi l), .int .u32 (hLo l)]) ?_ rfl ⟨rfl, (Below.refl _ _).alloc (Nat.le_refl _) _⟩
      rw [H1.out, H2.out]
      simp [results, Tryz.results208, go_sem]
set_option maxRecDepth 100000 in
set_option maxHeartbeats 400000 in
theorem bit_any (l : List UInt8) (A : Option Addr) (n c fb at' : Nat) (w : World) (hm : n ≤ 9223372036854775807) (hr : RB w w.heap.size A n l) (hf : w.cell? ⟨fb, 0, none⟩ = some (.slice A n c)) (h1 : at' < 20971520) (h2 : 6 + at' / 8 < n) :
    Calls Tryz.prog 159 #[.int .u32 at', .pointer (some ⟨fb, 0, none⟩)] w fun e w' => e = .returned (.bool (bitAt l at')) ∧ w = w' := by
  obtain ⟨b, o, x, rfl, hb, hx, hc⟩ := hr.at_ h2
  have H : Hid (bitAt l at' = (bits .and .u8 (x.toNat : Int) ((128 : Int) / 2 ^ (at' % 8)) != 0)) := Lib.hid (by
    rw [bit_walk]; unfold bitAt; rw [hx]; rfl)
  go_enter Tryz.func159, Tryz.ntmps159
  go_wp2
  go_ret
  exact ⟨ret_bool H.out.symm, rfl⟩
set_option maxRecDepth 100000 in
set_option maxHeartbeats 400000 in
theorem set_any (l : List UInt8) (base g n c fb at' : Nat) (w : World) (hf : w.cell? ⟨fb, 0, none⟩ = some (.slice (some ⟨g, 0, none⟩) n c)) (h1 : at' < 20971520) (h2 : 6 + at' / 8 < n)
     (hown : w.ownsRow base 5 1 (.slice (some ⟨g, 0, none⟩) n c) n (u8s l)) :
    Calls Tryz.prog 169 #[.int .u32 at', .pointer (some ⟨fb, 0, none⟩)] w fun e w' => e = .returned (.bool true) ∧ w'.ownsRow base 5 1 (.slice (some ⟨g, 0, none⟩) n c) n (u8s (setBit l at')) ∧ w.grownBy w' (some g) := by
  have hll : l.length = n := by have := hown.1; rw [u8s_length] at this; omega
  obtain ⟨x, hx⟩ : ∃ x, l[6 + at' / 8]? = some x := ⟨_, List.getElem?_eq_getElem (by omega)⟩
  have hc := (hown.cellAt (6 + at' / 8) (by omega)).trans (u8s_at hx)
  have hfr := hown.frozenAt (6 + at' / 8)
  have hnc : n ≤ c := by
    rcases hown.2 with ⟨h, _⟩ | ⟨_, _, _, h, _, _, h', _⟩
    · cases h
    · injection h with _ _ h; omega
  have hst := hown.stored (6 + at' / 8) (.int .u8 (bits .or .u8 (x.toNat : Int) ((128 : Int) / 2 ^ (at' % 8))))
  have e : (u8s l).set (6 + at' / 8) (.int .u8 (bits .or .u8 (x.toNat : Int) ((128 : Int) / 2 ^ (at' % 8)))) = u8s (setBit l at') := by
    rw [orBit_walk]
    unfold setBit u8s
    rw [List.map_set, hx]; rfl
  rw [e] at hst
  have H := Lib.hid hst
  clear e hst hown
  go_enter Tryz.func169, Tryz.ntmps169
  go_wp2
  go_ret
  exact ⟨rfl, H.out.1, H.out.2⟩
theorem step_next (l : List UInt8) (k : Nat) : ((hHi l + k * hLo l) % 4294967296 + hLo l) % 4294967296 = (hHi l + (k + 1) * hLo l) % 4294967296 := by
  rw [Nat.mod_add_mod, Nat.succ_mul, Nat.add_assoc]
set_option maxRecDepth 100000 in
set_option maxHeartbeats 1000000 in
theorem each_has (l key : List UInt8) (A Ak : Option Addr) (n c nk ck fb p m : Nat) (w : World) (hm : n ≤ 9223372036854775807) (hr : RB w w.heap.size A n l) (hf : w.cell? ⟨fb, 0, none⟩ = some (.slice A n c))
    (hmk : nk ≤ 9223372036854775807) (hk : RB w w.heap.size Ak nk key) (hp : p ≤ 14) (h0 : 0 < m) (h1 : m ≤ 20971520) (h2 : 6 + m / 8 = n) (h3 : m % 8 = 0) :
    Calls Tryz.prog 158 #[.agg #[.int .i64 p, .int .u32 m], .slice Ak nk ck, .func (.func 159) #[] #[.pointer (some ⟨fb, 0, none⟩)]] w fun e w' => e = .returned (.bool ((placesN key p m).all (bitAt l))) ∧ Below w.heap.size w w' := by
  have HK : Hid (∀ w', Below w.heap.size w w' → RB w' w'.heap.size Ak nk key) := Lib.hid fun w' h => hk.later h
  have HR : Hid (∀ w', Below w.heap.size w w' → RB w' w'.heap.size A n l) := Lib.hid fun w' h => hr.later h
  have hfb := World.block_lt_of_cell? _ _ hf
  dsimp only at hfb
  clear hk hr
  go_enter Tryz.func158, Tryz.ntmps158
  go_wp2_with (go_at_call 208; refine (halves_any key Ak nk ck _ hmk (HK.out _ ((Below.refl _ _).alloc (Nat.le_refl _) _))).mono ?_; rintro e w1 ⟨rfl, hb1⟩; obtain ⟨hc1, hf1, hs1⟩ := bcells hb1; simp only [World.size_alloc] at hc1 hf1 hs1)
  have HB : Hid (Below w.heap.size w (w1.alloc (.cells #[.int .u32 (hHi key), .int .u32 (hLo key)] 278))) := Lib.hid ((((Below.refl _ _).alloc (Nat.le_refl _) _).trans (hb1.mono (by simp))).alloc (by have := hb1.size; simp at this; omega) _)
  have hfb1 := hs1 fb (by omega)
  have hfc : w1.cell? ⟨fb, 0, none⟩ = some (.slice A n c) := by rw [hc1 fb 0 (by omega), World.cell?_alloc_lt _ _ _ hfb, hf]
  have hs0 := hs1 w.heap.size (by omega)
  have hm0 : w1.cell? ⟨w.heap.size, 1, none⟩ = some (.int .u32 m) := by rw [hc1 _ 1 (by omega)]; simp
  have hlo := hLo_lt key
  clear hc1 hf1 hs1 hb1
  go_loop [8, 15] (fun x i => ∃ k : Nat, k ≤ p ∧ i = .int .i64 k ∧ ∃ X : Nat, X < 4294967296 ∧ x = .int .u32 X ∧ Hid (X = (hHi key + k * hLo key) % 4294967296) ∧ Hid ((placesN key k m).all (bitAt l) = true)) (fun _ i => p - (intOf i).toNat)
  case atStart => exact ⟨0, Nat.zero_le _, rfl, hHi key, hHi_lt key, rfl, Lib.hid (by rw [Nat.zero_mul, Nat.add_zero, Nat.mod_eq_of_lt (hHi_lt key)]), Lib.hid rfl⟩
  case round =>
    obtain ⟨k, hkp, rfl, X, hX, rfl, HX, HA⟩ := hrel
    by_cases hlt : k < p
    case neg =>
      have e : k = p := by omega
      have HE : Hid ((placesN key p m).all (bitAt l) = true) := Lib.hid (e ▸ HA.out)
      go_wp2
      go_ret
      exact ⟨ret_bool HE.out.symm, HB.out⟩
    have hpl : placeN key m k = X % m := by unfold placeN; rw [← HX.out]
    have hpm : X % m < m := Nat.mod_lt _ h0
    have HN : Hid ((placesN key (k + 1) m).all (bitAt l) = ((placesN key k m).all (bitAt l) && bitAt l (X % m))) := Lib.hid (by
      rw [placesN_succ, List.all_append, hpl]; simp)
    have HF1 : Hid ((w1.alloc (.cells #[.int .u32 (hHi key), .int .u32 (hLo key)] 278)).cell? ⟨fb, 0, none⟩ = some (.slice A n c)) := Lib.hid ((World.cell?_alloc_lt _ _ _ hfb1).trans hfc)
    have HF2 : Hid (X % m < 20971520) := Lib.hid (by omega)
    have HF3 : Hid (6 + X % m / 8 < n) := Lib.hid (by omega)
    cases hbit : bitAt l (X % m)
    · have Hb := Lib.hid hbit
      have HF : Hid ((placesN key p m).all (bitAt l) = false) := Lib.hid (by
        rw [List.all_eq_false]
        refine ⟨placeN key m k, List.mem_map.2 ⟨k, List.mem_range.2 hlt, rfl⟩, by rw [hpl, hbit]; simp⟩)
      clear hbit hpl
      go_wp2_with (go_at_call 159; rw [← Int.natCast_emod]; refine (bit_any l A n c fb (X % m) _ hm (HR.out _ HB.out) HF1.out HF2.out HF3.out).mono ?_; rw [Hb.out]; rintro e w' ⟨rfl, rfl⟩)
      go_ret
      exact ⟨ret_bool HF.out.symm, HB.out⟩
    · have Hb := Lib.hid hbit
      clear hbit hpl
      go_wp2_with (go_at_call 159; rw [← Int.natCast_emod]; refine (bit_any l A n c fb (X % m) _ hm (HR.out _ HB.out) HF1.out HF2.out HF3.out).mono ?_; rw [Hb.out]; rintro e w' ⟨rfl, rfl⟩)
      go_round
      case rel => exact ⟨k + 1, by omega, by go_num, (X + hLo key) % 4294967296, Nat.mod_lt _ (by decide), congrArg (Value.int .u32) (by omega), Lib.hid (by rw [HX.out, step_next]), Lib.hid (by rw [HN.out, HA.out, Hb.out]; rfl)⟩
      case measure => simp [intOf]; omega
set_option maxRecDepth 100000 in
set_option maxHeartbeats 1000000 in
theorem each_set (l key : List UInt8) (Ak : Option Addr) (base g n c nk ck fb p m : Nat) (w : World) (hf : w.cell? ⟨fb, 0, none⟩ = some (.slice (some ⟨g, 0, none⟩) n c)) (hfg : fb ≠ g)
    (hown : w.ownsRow base 5 1 (.slice (some ⟨g, 0, none⟩) n c) n (u8s l))
    (hmk : nk ≤ 9223372036854775807) (hk : RB w w.heap.size Ak nk key) (hp : p ≤ 14) (h0 : 0 < m) (h1 : m ≤ 20971520) (h2 : 6 + m / 8 = n) (h3 : m % 8 = 0) :
    Calls Tryz.prog 158 #[.agg #[.int .i64 p, .int .u32 m], .slice Ak nk ck, .func (.func 169) #[] #[.pointer (some ⟨fb, 0, none⟩)]] w fun e w' => e = .returned (.bool true) ∧ w'.ownsRow base 5 1 (.slice (some ⟨g, 0, none⟩) n c) n (u8s (setAll l (placesN key p m))) ∧ w.grownBy w' (some g) := by
  have HK : Hid (∀ w', Below w.heap.size w w' → RB w' w'.heap.size Ak nk key) := Lib.hid fun w' h => hk.later h
  have hfb := World.block_lt_of_cell? _ _ hf
  dsimp only at hfb
  have hgl : g < w.heap.size := (hown.lt g rfl).2
  have HO := Lib.hid hown
  clear hk hown
  go_enter Tryz.func158, Tryz.ntmps158
  go_wp2_with (go_at_call 208; refine (halves_any key Ak nk ck _ hmk (HK.out _ ((Below.refl _ _).alloc (Nat.le_refl _) _))).mono ?_; rintro e w1 ⟨rfl, hb1⟩; obtain ⟨hc1, hf1, hs1⟩ := bcells hb1; simp only [World.size_alloc] at hc1 hf1 hs1)
  have HB : Hid (Below w.heap.size w (w1.alloc (.cells #[.int .u32 (hHi key), .int .u32 (hLo key)] 278))) := Lib.hid ((((Below.refl _ _).alloc (Nat.le_refl _) _).trans (hb1.mono (by simp))).alloc (by have := hb1.size; simp at this; omega) _)
  have hfb1 := hs1 fb (by omega)
  have hg1 := hs1 g (by omega)
  have hfc : w1.cell? ⟨fb, 0, none⟩ = some (.slice (some ⟨g, 0, none⟩) n c) := by rw [hc1 fb 0 (by omega), World.cell?_alloc_lt _ _ _ hfb, hf]
  have hs0 := hs1 w.heap.size (by omega)
  have hm0 : w1.cell? ⟨w.heap.size, 1, none⟩ = some (.int .u32 m) := by rw [hc1 _ 1 (by omega)]; simp
  have hlo := hLo_lt key
  have HO1 := Lib.hid (own_below HO.out HB.out)
  have HG := Lib.hid (below_grown HB.out (some g))
  have q1 : (w1.alloc (.cells #[.int .u32 (hHi key), .int .u32 (hLo key)] 278)).cell? ⟨fb, 0, none⟩ = some (.slice (some ⟨g, 0, none⟩) n c) := (World.cell?_alloc_lt _ _ _ hfb1).trans hfc
  have q2 : (w1.alloc (.cells #[.int .u32 (hHi key), .int .u32 (hLo key)] 278)).cell? ⟨w.heap.size, 1, none⟩ = some (.int .u32 m) := (World.cell?_alloc_lt _ _ _ hs0).trans hm0
  have q3 : (w1.alloc (.cells #[.int .u32 (hHi key), .int .u32 (hLo key)] 278)).cell? ⟨w1.heap.size, 1, none⟩ = some (.int .u32 (hLo key)) := by simp
  clear hc1 hf1 hs1 hb1 HO HK
  go_loopw [8, 15] (fun x i wr => ∃ k : Nat, k ≤ p ∧ i = .int .i64 k ∧ ∃ X : Nat, X < 4294967296 ∧ x = .int .u32 X ∧ Hid (X = (hHi key + k * hLo key) % 4294967296) ∧ wr.ownsRow base 5 1 (.slice (some ⟨g, 0, none⟩) n c) n (u8s (setAll l (placesN key k m))) ∧ w.grownBy wr (some g) ∧
      wr.cell? ⟨fb, 0, none⟩ = some (.slice (some ⟨g, 0, none⟩) n c) ∧ wr.cell? ⟨w.heap.size, 1, none⟩ = some (.int .u32 m) ∧ wr.cell? ⟨w1.heap.size, 1, none⟩ = some (.int .u32 (hLo key))) (fun _ i _ => p - (intOf i).toNat)
  case atStart => exact ⟨0, Nat.zero_le _, rfl, hHi key, hHi_lt key, rfl, Lib.hid (by rw [Nat.zero_mul, Nat.add_zero, Nat.mod_eq_of_lt (hHi_lt key)]), HO1.out, HG.out, q1, q2, q3⟩
  case round =>
    obtain ⟨k, hkp, rfl, X, hX, rfl, HX, hO, hG, c1, c2, c3⟩ := hrel
    clear q1 q2 q3
    by_cases hlt : k < p
    case neg =>
      have e : k = p := by omega
      subst e
      go_wp2
      go_ret
      exact ⟨rfl, hO, hG⟩
    have HN : Hid (setAll l (placesN key (k + 1) m) = setBit (setAll l (placesN key k m)) (X % m)) := Lib.hid (by
      rw [placesN_succ, setAll_snoc, show placeN key m k = X % m from by unfold placeN; rw [← HX.out]])
    have hpm : X % m < m := Nat.mod_lt _ h0
    have HF2 : Hid (X % m < 20971520) := Lib.hid (by omega)
    have HF3 : Hid (6 + X % m / 8 < n) := Lib.hid (by omega)
    go_wp2_with (go_at_call 169; rw [← Int.natCast_emod]; refine (set_any _ base g n c fb (X % m) _ c1 HF2.out HF3.out hO).mono ?_; rintro e w2 ⟨rfl, hO2, hG2⟩; have d1 := hG2.cell c1 (by simpa using hfg); have d2 := hG2.cell c2 (by simp; omega); have d3 := hG2.cell c3 (by simp; omega))
    have hO3 : w2.ownsRow base 5 1 (.slice (some ⟨g, 0, none⟩) n c) n (u8s (setAll l (placesN key (k + 1) m))) := by rw [HN.out]; exact hO2
    have hG3 := grown_trans hG hG2
    clear hO2 hO hG2 hG c1 c2 c3
    go_roundw
    case rel => exact ⟨k + 1, by omega, by go_num, (X + hLo key) % 4294967296, Nat.mod_lt _ (by decide), congrArg (Value.int .u32) (by omega), Lib.hid (by rw [HX.out, step_next]), hO3, hG3, d1, d2, d3⟩
    case measure => simp [intOf]; omega
set_option maxRecDepth 100000 in
set_option maxHeartbeats 2000000 in
theorem read_go (l : List UInt8) (A : Option Addr) (n c : Nat) (w : World) (hm : n ≤ 9223372036854775807) (hr : RB w w.heap.size A n l) (h6 : 6 ≤ n) (x1 x2 x3 x4 x5 : UInt8) (e0 : l[0]? = some 66) (e1 : l[1]? = some x1) (e2 : l[2]? = some x2) (e3 : l[3]? = some x3) (e4 : l[4]? = some x4) (e5 : l[5]? = some x5) (P M : Nat) (hP : P = x1.toNat) (hM : M = headN x2 x3 x4 x5) (ok : Bool)
    (hok : ok = decide (1 ≤ P ∧ P ≤ 14 ∧ 64 ≤ M ∧ M ≤ 20971520 ∧ M % 8 = 0 ∧ n = 6 + M / 8)) :
    Calls Tryz.prog 136 #[.slice A n c] w fun e w' => e = .returned (.tuple #[.agg #[.int .i64 P, .int .u32 M], .bool ok]) ∧ Below w.heap.size w w' := by
  obtain ⟨b, o, _, rfl, hb, _, _⟩ := hr.at_ (k := 0) (by omega)
  have c0 := hr.cell e0
  have c1 := hr.cell e1
  have c2 := hr.cell e2
  have c3 := hr.cell e3
  have c4 := hr.cell e4
  have c5 := hr.cell e5
  rw [Nat.add_zero] at c0
  have hne : w.heap.size ≠ b := by omega
  have b2 := x2.toNat_lt
  have b3 := x3.toNat_lt
  have b4 := x4.toNat_lt
  have b5 := x5.toNat_lt
  have HM := Lib.hid hM
  have HP := Lib.hid hP
  have HOK := Lib.hid hok
  have hMl : M < 4294967296 := by rw [hM]; exact headN_lt _ _ _ _
  have hPl : P < 256 := by rw [hP]; have := x1.toNat_lt; omega
  clear e0 e1 e2 e3 e4 e5 hr hM hP hok
  go_enter Tryz.func136, Tryz.ntmps136
  go_upto_region 3 with fail
  go_cut [4] (fun s4 wx => s4 = .pointer (some ⟨w.heap.size + 1, 0, none⟩) ∧ wx = ((w.alloc (.cells #[.int .i64 0, .int .u32 0] 219)).alloc (.cells #[.int .i64 P, .int .u32 M] 219)).drew)
  case first =>
    have b1 := x1.toNat_lt
    go_region
    go_wp2_with fail
    go_meet
    refine ⟨rfl, ?_⟩
    rw [head_bits, ← HM.out, ← HP.out]
  case rest =>
    obtain ⟨rfl, rfl⟩ := hcut
    clear c0 c1 c2 c3 c4 c5 b2 b3 b4 b5 HM HP
    have hB := ((((Below.refl w.heap.size w).alloc (Nat.le_refl _) (.cells #[.int .i64 P, .int .u32 M] 219)).alloc (by simp) (.cells #[.int .i64 P, .int .u32 M] 219)).drew)
    have HB := Lib.hid hB
    clear hB
    rcases (show P < 1 ∨ 14 < P ∨ ((1 ≤ P ∧ P ≤ 14) ∧ M < 64) ∨ ((1 ≤ P ∧ P ≤ 14) ∧ 20971520 < M) ∨ ((1 ≤ P ∧ P ≤ 14) ∧ (64 ≤ M ∧ M ≤ 20971520) ∧ M % 8 ≠ 0) ∨ ((1 ≤ P ∧ P ≤ 14) ∧ (64 ≤ M ∧ M ≤ 20971520) ∧ M % 8 = 0) from by omega) with h | h | ⟨⟨h1, h2⟩, h⟩ | ⟨⟨h1, h2⟩, h⟩ | ⟨⟨h1, h2⟩, ⟨h3, h4⟩, h⟩ | ⟨⟨h1, h2⟩, ⟨h3, h4⟩, h⟩
    · have E : Hid (ok = false) := Lib.hid (by rw [HOK.out]; simp; omega)
      go_wp2
      go_region
      go_wp2
      exact bodyPost_ret (v := .tuple #[.agg #[.int .i64 P, .int .u32 M], .bool ok]) (by rw [E.out]; simp [results, Tryz.results136, go_sem]) rfl ⟨rfl, HB.out.drew⟩
    · have E : Hid (ok = false) := Lib.hid (by rw [HOK.out]; simp; omega)
      go_wp2
      go_region
      go_wp2
      exact bodyPost_ret (v := .tuple #[.agg #[.int .i64 P, .int .u32 M], .bool ok]) (by rw [E.out]; simp [results, Tryz.results136, go_sem]) rfl ⟨rfl, HB.out.drew⟩
    · have E : Hid (ok = false) := Lib.hid (by rw [HOK.out]; simp; omega)
      go_wp2
      go_region
      go_wp2
      exact bodyPost_ret (v := .tuple #[.agg #[.int .i64 P, .int .u32 M], .bool ok]) (by rw [E.out]; simp [results, Tryz.results136, go_sem]) rfl ⟨rfl, HB.out.drew⟩
    · have E : Hid (ok = false) := Lib.hid (by rw [HOK.out]; simp; omega)
      go_wp2
      go_region
      go_wp2
      exact bodyPost_ret (v := .tuple #[.agg #[.int .i64 P, .int .u32 M], .bool ok]) (by rw [E.out]; simp [results, Tryz.results136, go_sem]) rfl ⟨rfl, HB.out.drew⟩
    · have E : Hid (ok = false) := Lib.hid (by rw [HOK.out]; simp; omega)
      have d1 : ((M : Int) % 8 == 0) = false := by rw [beq_eq_false_iff_ne]; omega
      clear h
      go_wp2
      go_region
      go_wp2
      exact bodyPost_ret (v := .tuple #[.agg #[.int .i64 P, .int .u32 M], .bool ok]) (by rw [E.out]; simp [results, Tryz.results136, go_sem]) rfl ⟨rfl, HB.out.drew⟩
    · have d1 : ((M : Int) % 8 == 0) = true := by rw [beq_iff_eq]; omega
      by_cases hn : n = 6 + M / 8
      · have E : Hid (ok = true) := Lib.hid (by rw [HOK.out]; simp; omega)
        have d2 : ((n : Int) == 6 + (M : Int) / 8) = true := by rw [beq_iff_eq]; omega
        clear h hn
        go_wp2
        go_region
        go_wp2
        exact bodyPost_ret (v := .tuple #[.agg #[.int .i64 P, .int .u32 M], .bool ok]) (by rw [E.out]; simp [results, Tryz.results136, go_sem]) rfl ⟨rfl, HB.out.drew⟩
      · have E : Hid (ok = false) := Lib.hid (by rw [HOK.out]; simp; omega)
        have d2 : ((n : Int) == 6 + (M : Int) / 8) = false := by rw [beq_eq_false_iff_ne]; omega
        clear h hn
        go_wp2
        go_region
        go_wp2
        exact bodyPost_ret (v := .tuple #[.agg #[.int .i64 P, .int .u32 M], .bool ok]) (by rw [E.out]; simp [results, Tryz.results136, go_sem]) rfl ⟨rfl, HB.out.drew⟩
set_option maxRecDepth 100000 in
set_option maxHeartbeats 400000 in
theorem read_no (l : List UInt8) (A : Option Addr) (n c : Nat) (w : World) (hm : n ≤ 9223372036854775807) (hr : RB w w.heap.size A n l) (h : n < 6 ∨ l[0]? ≠ some 66) :
    Calls Tryz.prog 136 #[.slice A n c] w fun e w' => e = .returned (.tuple #[.agg #[.int .i64 0, .int .u32 0], .bool false]) ∧ Below w.heap.size w w' := by
  by_cases h6 : n < 6
  · clear h hr
    go_enter Tryz.func136, Tryz.ntmps136
    go_wp2
    exact bodyPost_ret (v := .tuple #[.agg #[.int .i64 0, .int .u32 0], .bool false]) (by simp [results, Tryz.results136, go_sem]) rfl ⟨rfl, (Below.refl _ _).alloc (Nat.le_refl _) _⟩
  · obtain ⟨b, o, x, rfl, hb, hx, hc⟩ := hr.at_ (k := 0) (by omega)
    have hne : w.heap.size ≠ b := by omega
    have hx66 : x.toNat ≠ 66 := by
      intro e
      rcases h with h | h
      · omega
      · exact h (by rw [hx]; congr 1; exact UInt8.toNat_inj.1 e)
    have d1 : ((x.toNat : Int) != 66) = true := by rw [bne_iff_ne]; omega
    rw [Nat.add_zero] at hc
    have h6' : 6 ≤ n := by omega
    clear h hr hx h6 hx66
    go_enter Tryz.func136, Tryz.ntmps136
    go_wp2
    exact bodyPost_ret (v := .tuple #[.agg #[.int .i64 0, .int .u32 0], .bool false]) (by simp [results, Tryz.results136, go_sem]) rfl ⟨rfl, (Below.refl _ _).alloc (Nat.le_refl _) _⟩
theorem bf_read_any (l : List UInt8) (A : Option Addr) (n c : Nat) (w : World) (hm : n ≤ 9223372036854775807) (hr : RB w w.heap.size A n l) :
    Calls Tryz.prog 136 #[.slice A n c] w fun e w' => e = .returned (.tuple #[.agg #[.int .i64 (shapeP l), .int .u32 (shapeM l)], .bool (isF l)]) ∧ Below w.heap.size w w' := by
  have hl := hr.len
  by_cases h : l.length < 6 ∨ l[0]? ≠ some 66
  · have e1 : shapeP l = 0 := by unfold shapeP; rw [if_pos h]
    have e2 : shapeM l = 0 := by unfold shapeM; rw [if_pos h]
    have e3 : isF l = false := by unfold isF; rw [e1]; simp
    rw [e1, e2, e3]
    exact read_no l A n c w hm hr (by rw [← hl]; exact h)
  · have h6 : 6 ≤ l.length := by omega
    have h0 : l[0]? = some 66 := by
      rcases Classical.em (l[0]? = some 66) with h' | h'
      · exact h'
      · exact absurd (Or.inr h') h
    have e : ∀ k, k < 6 → l[k]? = some (l[k]?.getD 0) := fun k hk => by rw [List.getElem?_eq_getElem (by omega)]; rfl
    exact read_go l A n c w hm hr (by omega) _ _ _ _ _ h0 (e 1 (by omega)) (e 2 (by omega)) (e 3 (by omega)) (e 4 (by omega)) (e 5 (by omega)) (shapeP l) (shapeM l) (by unfold shapeP; rw [if_neg h]) (by unfold shapeM; rw [if_neg h]) (isF l) (by unfold isF; rw [hl])
def bf_checkE (l : List UInt8) : Int := if isF l then 0 else 62
set_option maxRecDepth 100000 in
set_option maxHeartbeats 400000 in
theorem bf_check_any (l : List UInt8) (A : Option Addr) (n c : Nat) (w : World) (hm : n ≤ 9223372036854775807) (hr : RB w w.heap.size A n l) :
    Calls Tryz.prog 71 #[.slice A n c] w fun e w' => e = .returned (.int .i64 (bf_checkE l)) ∧ Below w.heap.size w w' := by
  cases hf : isF l
  all_goals
    have HF := Lib.hid hf
    clear hf
    have HE : Hid (bf_checkE l = if isF l then 0 else 62) := Lib.hid rfl
    go_enter Tryz.func71, Tryz.ntmps71
    go_wp2_with (go_at_call 136; refine (bf_read_any l A n c _ hm hr).mono ?_; rintro e w1 ⟨rfl, hb1⟩; rw [HF.out])
    go_ret
    exact ⟨ret_int (by rw [HE.out, HF.out]; rfl), hb1.alloc hb1.size _⟩
def hasB (l key : List UInt8) : Bool := isF l && (placesN key (shapeP l) (shapeM l)).all (bitAt l)
set_option maxRecDepth 100000 in
set_option maxHeartbeats 400000 in
theorem has_any (l key : List UInt8) (A Ak : Option Addr) (n c nk ck : Nat) (w : World) (hm : n ≤ 9223372036854775807) (hr : RB w w.heap.size A n l) (hmk : nk ≤ 9223372036854775807) (hk : RB w w.heap.size Ak nk key) :
    Calls Tryz.prog 95 #[.slice A n c, .slice Ak nk ck] w fun e w' => e = .returned (.tuple #[.bool (hasB l key), .int .i64 (bf_checkE l)]) ∧ Below w.heap.size w w' := by
  have HR : Hid (∀ w', Below w.heap.size w w' → RB w' w'.heap.size A n l) := Lib.hid fun w' h => hr.later h
  have HK : Hid (∀ w', Below w.heap.size w w' → RB w' w'.heap.size Ak nk key) := Lib.hid fun w' h => hk.later h
  have hl := hr.len
  cases hf : isF l
  · have HF := Lib.hid hf
    have HE : Hid (bf_checkE l = 62) := Lib.hid (by unfold bf_checkE; rw [hf]; rfl)
    have HB : Hid (hasB l key = false) := Lib.hid (by unfold hasB; rw [hf]; rfl)
    clear hf hr hk hl
    go_enter Tryz.func95, Tryz.ntmps95
    go_wp2_with (go_at_call 136; refine (bf_read_any l A n c _ hm (HR.out _ ((Below.refl _ _).alloc (Nat.le_refl _) _))).mono ?_; rintro e w1 ⟨rfl, hb1⟩; rw [HF.out])
    go_ret2
    exact ⟨by rw [HB.out, HE.out]; rfl, (((Below.refl _ _).alloc (Nat.le_refl _) _).trans (hb1.mono (by simp))).alloc (by have := hb1.size; simp at this; omega) _⟩
  · have HF := Lib.hid hf
    have HE : Hid (bf_checkE l = 0) := Lib.hid (by unfold bf_checkE; rw [hf]; rfl)
    have HB : Hid (hasB l key = (placesN key (shapeP l) (shapeM l)).all (bitAt l)) := Lib.hid (by unfold hasB; rw [hf]; rfl)
    have hq := of_decide_eq_true hf
    rw [hl] at hq
    obtain ⟨q1, q2, q3, q4, q5, q6⟩ := hq
    have Q5 := Lib.hid q5
    have Q6 := Lib.hid q6
    clear hf hr hk hl q5 q6
    go_enter Tryz.func95, Tryz.ntmps95
    go_wp2_with (first
      | (go_at_call 136; refine (bf_read_any l A n c _ hm (HR.out _ ((Below.refl _ _).alloc (Nat.le_refl _) _))).mono ?_; rintro e w1 ⟨rfl, hb1⟩; rw [HF.out]; have HB1 := Lib.hid ((((Below.refl _ _).alloc (Nat.le_refl _) _).trans (hb1.mono (by simp))).alloc (by have := hb1.size; simp at this; omega) (.cells #[.int .i64 (shapeP l), .int .u32 (shapeM l)] 219)); have HC1 := Lib.hid (cell_alloc_old (o := .cells #[.int .i64 (shapeP l), .int .u32 (shapeM l)] 219) (cell_below hb1 (p := ⟨w.heap.size, 0, none⟩) (v := .slice A n c) (by simp))))
      | (go_at_call 158; refine (each_has l key A Ak n c nk ck w.heap.size (shapeP l) (shapeM l) _ hm (HR.out _ HB1.out) HC1.out hmk (HK.out _ HB1.out) q2 (by omega) q4 Q6.out.symm Q5.out).mono ?_; rintro e w2 ⟨rfl, hb2⟩))
    go_ret2
    exact ⟨by rw [HB.out, HE.out]; rfl, HB1.out.trans (hb2.mono HB1.out.size)⟩
theorem Tryz.u8s' : SliceOf Tryz.prog 34 5 1 1 := SliceOf.mk' (z := .int .u8 0) Tryz.underlying34 (by kernel_rfl) rfl (by decide)
end Go.Proofs.YtfdbcfaeiglbeaaGreatDoor
namespace Go.Proofs.YtfdbcfaeiglbeaaGreatDoor
open Go.RowKit Go.Maps Go.WideMaps
theorem law_str : Keyed Tryz.prog 9 := string_keyed Tryz.underlying9
def KS (ks : List (List UInt8)) (k : Nat) : DataW Unit := setOf (.lit (.bool true)) ((ks.take k).map Lit.string)
theorem KS_zero (ks : List (List UInt8)) : KS ks 0 = .map [] := by simp [KS, setOf]
theorem KS_succ (ks : List (List UInt8)) (k : Nat) (x : List UInt8) (h : ks[k]? = some x) : KS ks (k + 1) = (KS ks k).put (.string x) (.lit (.bool true)) := by
  unfold KS
  rw [take_snoc h, List.map_append, List.map_cons, List.map_nil, setOf_snoc]
theorem bf_made_zeros (L : Nat) : (madeCells (Value.int IntKind.u8 0).cells L).toList = u8s (List.replicate L 0) := by
  have e : (Value.int IntKind.u8 0).cells = #[.int .u8 0] := rfl
  rw [e]
  apply List.ext_getElem?
  intro i
  simp only [madeCells, u8s, u8v, List.map_replicate, List.getElem?_replicate, Array.toList_map, Array.toList_range, List.getElem?_map, List.size_toArray, List.length_cons, List.length_nil, Nat.zero_add, Nat.mod_one]
  by_cases h : i < L
  · rw [if_pos h, List.getElem?_range h]; rfl
  · rw [if_neg h, List.getElem?_eq_none (by simpa using h)]; rfl
theorem zeros_at {L k : Nat} (h : k < L) : (u8s (List.replicate L 0))[k]? = some (.int .u8 0) := by
  simp [u8s, u8v, h]
theorem u8s_getElem {l : List UInt8} {k : Nat} (h : k < l.length) : (u8s l)[k]? = some (.int .u8 ((l[k]'h).toNat : Int)) := u8s_at (List.getElem?_eq_getElem h)
theorem grown_drew {a b : World} {r : Option Nat} (h : a.grownBy b r) : a.grownBy b.drew r := ⟨h.os, h.tape, h.output, h.size, h.block⟩
theorem own_drew {w : World} {base e size n : Nat} {v : Value} {xs : List Value} (h : w.ownsRow base e size v n xs) : w.drew.ownsRow base e size v n xs := h
theorem keyOf_string_inv' {P : Program} {k : TypeId} (hk : P.underlying k = some .string) {s : ByteArray} {kl : Lit} (h : keyOf P k (.string s) = some kl) : kl = .string s.data.toList := by
  simp [keyOf, hk, mapKey] at h
  exact h.2.symm
def BuildPost (bits : Int) (ks : List (List UInt8)) (w : World) (e : Ending) (w' : World) : Prop :=
  (buildE bits ks = 0 ∧ ∃ g, e = .returned (.tuple #[.slice (some ⟨g, 0, none⟩) (buildB bits ks).length (buildB bits ks).length, .int .i64 0]) ∧ w'.ownsRow w.heap.size 5 1 (.slice (some ⟨g, 0, none⟩) (buildB bits ks).length (buildB bits ks).length) (buildB bits ks).length (u8s (buildB bits ks)) ∧ Below w.heap.size w w') ∨
  (buildE bits ks ≠ 0 ∧ e = .returned (.tuple #[.slice none 0 0, .int .i64 (buildE bits ks)]) ∧ Below w.heap.size w w')
set_option maxRecDepth 100000 in
set_option maxHeartbeats 2000000 in
theorem bf_build_any (bits : Int) (ks : List (List UInt8)) (A : Option Addr) (n c : Nat) (w : World) (hn : n ≤ 9223372036854775807) (hr : RBs w w.heap.size A n ks) :
    Calls Tryz.prog 114 #[.int .i64 bits, .slice A n c] w (BuildPost bits ks w) := by
  have HR : Hid (∀ w', Below w.heap.size w w' → RBs w' w'.heap.size A n ks) := Lib.hid fun w' h => hr.later h
  have hlen := hr.len
  by_cases hb : bits < 1 ∨ 20 < bits
  case pos =>
    have HP : Hid (BuildPost bits ks w (.returned (.tuple #[.slice none 0 0, .int .i64 60])) w) := Lib.hid (by
      have e : buildE bits ks = 60 := by unfold buildE; rw [if_pos hb]
      exact .inr ⟨by rw [e]; decide, by rw [e]; rfl, Below.refl _ _⟩)
    clear hr HR
    by_cases h1 : bits < 1
    · have d1 : decide (bits < 1) = true := decide_eq_true h1
      clear hb h1
      go_enter Tryz.func114, Tryz.ntmps114
      go_wp2
      go_ret2
      exact HP.out
    · have d1 : decide (bits < 1) = false := decide_eq_false h1
      have d2 : decide (20 < bits) = true := decide_eq_true (by omega)
      clear hb h1
      go_enter Tryz.func114, Tryz.ntmps114
      go_wp2
      go_ret2
      exact HP.out
  have d1 : decide (bits < 1) = false := decide_eq_false (by omega)
  have d2 : decide (20 < bits) = false := decide_eq_false (by omega)
  by_cases hk : 1048576 < n
  case pos =>
    have HP : Hid (BuildPost bits ks w (.returned (.tuple #[.slice none 0 0, .int .i64 61])) w) := Lib.hid (by
      have e : buildE bits ks = 61 := by unfold buildE; rw [if_neg hb, if_pos (by omega)]
      exact .inr ⟨by rw [e]; decide, by rw [e]; rfl, Below.refl _ _⟩)
    clear hb hr HR
    go_enter Tryz.func114, Tryz.ntmps114
    go_wp2
    go_ret2
    exact HP.out
  have HHas : Hid (∀ x, Maps.has (KS ks n) (.string x) = ks.contains x) := Lib.hid fun x => by unfold KS; rw [take_all (by omega), has_keys]
  have HKL : Hid (∀ x ∈ ks, x.length ≤ 9223372036854775807) := Lib.hid fun x hx => by
    obtain ⟨i, hi, e⟩ := List.getElem_of_mem hx
    obtain ⟨b, o, key, a, ck, _, _, hki, _, h1, h2, _, _⟩ := hr.at_ (i := i) (by omega)
    rw [List.getElem?_eq_getElem hi] at hki
    injection hki with hki
    rw [← e, hki]; omega
  have h0 : buildE bits ks = 0 := by unfold buildE; rw [if_neg hb, if_neg (by omega)]
  have hmm := @run_makeMap Tryz.prog
  clear hb
  go_enter Tryz.func114, Tryz.ntmps114
  go_wp2
  go_loopw [26] (fun i wr => ∃ k : Nat, k ≤ n ∧ i = .int .i64 k ∧ wr.ownsMap Tryz.prog 9 (plainElem Tryz.prog 4) w.heap.size k (KS ks k) ∧ Hid (Below w.heap.size w wr))
    (fun i _ => n - (intOf i).toNat)
  case atStart => exact ⟨0, Nat.zero_le _, rfl, by rw [KS_zero]; exact World.ownsMap_made _ _ _ _, Lib.hid ((Below.refl _ _).alloc (Nat.le_refl _) _)⟩
  case round =>
    obtain ⟨k, hkn, rfl, hown, HB⟩ := hrel
    by_cases hlt : k < n
    case pos =>
      obtain ⟨b, o, key, a, ck, rfl, hbw, hki, hcell, hkc, hck, _, hrb⟩ := (HR.out _ HB.out).at_ hlt
      have hkey : keyOf Tryz.prog 9 (.string ⟨key.toArray⟩) = some (.string key) := keyOf_string_mk Tryz.underlying9 (by show key.toArray.size ≤ maxLen; unfold maxLen; rw [List.size_toArray]; omega)
      have HS := Lib.hid (KS_succ ks k key hki)
      have hd : decide ((k : Int) < n) = true := decide_eq_true (by omega)
      clear hki
      go_wp2_with (first
        | (refine wpList_string_reads rfl _ 34 9 5 rfl Tryz.underlying34 Tryz.underlying5 Tryz.underlying9 rfl hrb ?_)
        | (at_mapUpdate; refine wpList_mapUpdate_own _ rfl _ _ _ 257 rfl 9 4 law_str Tryz.underlying257 (plainElem (H := Unit) Tryz.prog 4) w.heap.size k _ rfl hown (by unfold maxLen; omega) _ _ _ rfl rfl hkey _ [] (plainElem_bool Tryz.underlying4 true) ?_; intro w1 hown1 hgrow1))
      go_roundw
      case rel => exact ⟨k + 1, by omega, by go_num, by rw [HS.out]; exact hown1, Lib.hid (HB.out.grown hgrow1 HB.out.size (fun j hj => by cases hj; exact Nat.le_refl _))⟩
      case measure => simp [intOf]; omega
    have e : k = n := by omega
    subst e
    have HU : Hid (Maps.size (KS ks k) = (unl ks).length) := Lib.hid (by unfold KS; rw [take_all (by omega), size_keys])
    have hU2 := buildM_raw (bits := bits) (ks := ks) (by have := of_decide_eq_false d1; omega) (by have := of_decide_eq_false d2; omega) (by omega)
    obtain ⟨nb, rfl⟩ : ∃ nb : Nat, bits = (nb : Int) := ⟨bits.toNat, by have := of_decide_eq_false d1; omega⟩
    obtain ⟨U, hU⟩ : ∃ U : Nat, U = (unl ks).length := ⟨_, rfl⟩
    rw [← hU, Int.toNat_natCast] at hU2
    have hd : decide ((k : Int) < k) = false := decide_eq_false (by omega)
    have hnb1 : 1 ≤ nb := by have := of_decide_eq_false d1; omega
    have hnb2 : nb ≤ 20 := by have := of_decide_eq_false d2; omega
    obtain ⟨P, hP⟩ : ∃ P : Nat, P = U * nb := ⟨_, rfl⟩
    obtain ⟨Q, hQ⟩ : ∃ Q : Nat, Q = (P + 7) / 8 := ⟨_, rfl⟩
    obtain ⟨M, hM⟩ : ∃ M : Nat, M = buildM nb ks := ⟨_, rfl⟩
    obtain ⟨R, hR⟩ : ∃ R : Nat, R = 7 * nb / 10 := ⟨_, rfl⟩
    obtain ⟨p, hp⟩ : ∃ p : Nat, p = buildP nb := ⟨_, rfl⟩
    obtain ⟨D, hD⟩ : ∃ D : Nat, D = M / 8 := ⟨_, rfl⟩
    obtain ⟨L, hL⟩ : ∃ L : Nat, L = 6 + D := ⟨_, rfl⟩
    obtain ⟨q1, q2, q3, q4, q5, q6, q7, q8, q9, q10, q11, q12, q13, q14, hM1, hM2, hM3, hp1, hp2, hLa, hLb⟩ := build_nums nb ks U P Q M R p D L hU hU2 hnb1 hnb2 hP hQ hM hR hp hD hL
    have HL := Lib.hid hL
    have HD := Lib.hid hD
    have HM := Lib.hid hM
    have Hp := Lib.hid hp
    have HUU := Lib.hid hU
    have HN1 : Hid (1 * L ≤ 281474976710656) := Lib.hid (by rw [Nat.one_mul]; exact Nat.le_trans hLb (by decide))
    have HN2 : Hid (L ≤ maxLen) := Lib.hid (Nat.le_trans hLb (by unfold maxLen; decide))
    have HN3 : Hid (w.heap.size ≤ (wr.alloc (.cells #[.int .i64 p, .int .u32 M] 219)).heap.size) := Lib.hid (Nat.le_trans HB.out.size (by simp))
    clear hU2 hP hQ hR hM hp hD hL hU
    go_wp2_with (first
      | (at_len; refine wpList_len_own _ rfl _ 257 rfl 9 4 Tryz.underlying257 _ w.heap.size k _ rfl hown ?_; rw [HU.out, ← HUU.out])
      | (at_make; refine wpList_make_full _ rfl (.tmp 51) (.tmp 51) 34 rfl w.heap.size 5 Tryz.t5 (.int .u8 0) 1 Tryz.underlying34 (by kernel_rfl) rfl rfl .i64 .i64 _ _ L rfl rfl (by simp) (by simp) HN1.out HN2.out HN3.out ?_; intro w3 hown3 hg3))
    clear q1 q2 q3 q4 q5 q6 q7 q8 q9 q10 q11 q12 q13 q14
    have HB3 := Lib.hid ((HB.out.alloc HB.out.size (.cells #[.int .i64 p, .int .u32 M] 219)).grown hg3 (by have := HB.out.size; simp; omega) (by simp))
    simp only [World.size_alloc, Nat.mul_one] at hown3
    have hw3 : wr.heap.size + 1 < w3.heap.size := (hown3.lt _ rfl).2
    have s0 : w3.cell? ⟨wr.heap.size, 0, none⟩ = some (.int .i64 p) := by rw [World.cell?_of_block (hg3.block wr.heap.size (by simp) (by simp))]; simp
    have s1 : w3.cell? ⟨wr.heap.size, 1, none⟩ = some (.int .u32 M) := by rw [World.cell?_of_block (hg3.block wr.heap.size (by simp) (by simp))]; simp
    have hwr : w.heap.size < wr.heap.size := hown.lt
    have hown4 := (hown.kept (World.grownBy_alloc wr (.cells #[.int .i64 p, .int .u32 M] 219) none) (by simp)).kept hg3 (by simp)
    rw [bf_made_zeros] at hown3
    obtain ⟨g, hg⟩ : ∃ g, g = wr.heap.size + 1 := ⟨_, rfl⟩
    obtain ⟨sb, hsb⟩ : ∃ sb, sb = wr.heap.size := ⟨_, rfl⟩
    obtain ⟨fb, hfb⟩ : ∃ fb, fb = w3.heap.size := ⟨_, rfl⟩
    rw [← hg] at hown3 hw3 ⊢
    rw [← hsb] at s0 s1 hwr hg ⊢
    rw [← hfb] at hw3 ⊢
    have c0 : (w3.alloc (.cells #[.slice (some ⟨g, 0, none⟩) L L] 34)).cell? ⟨fb, 0, none⟩ = some (.slice (some ⟨g, 0, none⟩) L L) := by rw [hfb]; simp
    have s2 := cell_alloc_old (o := .cells #[.slice (some ⟨g, 0, none⟩) L L] 34) s0
    have s3 := cell_alloc_old (o := .cells #[.slice (some ⟨g, 0, none⟩) L L] 34) s1
    have hO := own_below hown3 ((Below.refl _ _).alloc (Nat.le_refl _) (.cells #[.slice (some ⟨g, 0, none⟩) L L] 34))
    have hO4 := hown4.kept (World.grownBy_alloc w3 (.cells #[.slice (some ⟨g, 0, none⟩) L L] 34) none) (by simp)
    have HB4 := Lib.hid (HB3.out.alloc HB3.out.size (.cells #[.slice (some ⟨g, 0, none⟩) L L] 34))
    have hz4 : fb < (w3.alloc (.cells #[.slice (some ⟨g, 0, none⟩) L L] 34)).heap.size := by rw [hfb]; simp
    generalize w3.alloc (.cells #[.slice (some ⟨g, 0, none⟩) L L] 34) = w4 at *
    clear s0 s1 hown3 hown4 HB3 HN3 hg3 hmm HB hown hfb hsb
    have z0 := (hO.cellAt 0 (by omega)).trans (zeros_at (k := 0) (by omega))
    have z1 := (hO.cellAt 1 (by omega)).trans (zeros_at (k := 1) (by omega))
    have hst1 := hO.stored 0 (.int .u8 66)
    have hst2 := hst1.1.stored 1 (.int .u8 p)
    have hst := hst1.2
    have f0 := hO.frozenAt 0
    have f1 := hO.frozenAt 1
    have hgs : sb ≠ g := by omega
    have hgf : fb ≠ g := by omega
    have hpm : (p : Int) % 256 = (p : Int) := by omega
    have HO1 := Lib.hid hst1
    have HO2 := Lib.hid hst2
    have hsg : w.heap.size < g := by omega
    have hsbf : sb < fb := by omega
    have hG := grown_drew (grown_trans hst1.2 hst2.2)
    have e0 : ((u8s (List.replicate L 0)).set 0 (.int .u8 66)).set 1 (.int .u8 p) = u8s (hdrTo p M 0) := by
      show _ = u8s (hdr0 p M)
      unfold hdr0 u8s
      rw [List.map_set, List.map_set, HL.out, HD.out]
      unfold u8v
      rw [UInt8.toNat_ofNat', Nat.mod_eq_of_lt (by omega)]; rfl
    have g0 := own_drew hst2.1
    rw [e0] at g0
    have g1 := hO4.kept hG (by intro e; injection e with e; omega)
    have g2 := hG.cell c0 (by simpa using hgf)
    have g3 := hG.cell s2 (by simpa using hgs)
    have g4 := hG.cell s3 (by simpa using hgs)
    have g5 := Lib.hid (HB4.out.grown hG HB4.out.size (by intro j hj; injection hj with hj; omega))
    have g6 := Nat.lt_of_lt_of_le hz4 hG.size
    have HG0 := Lib.hid (And.intro g0 (And.intro g1 (And.intro g2 (And.intro g3 (And.intro g4 (And.intro g5 g6))))))
    clear g0 g1 g2 g3 g4 g5 g6 hG e0 hst hst1 hst2 hO hg hO4
    go_wp2
    go_region
    go_wp2
    clear z0 z1 f0 f1 c0 s2 s3 HB4 hz4
    go_loopw [60] (fun i wr2 => ∃ j : Nat, j ≤ 4 ∧ i = .int .i64 j ∧ wr2.ownsRow w.heap.size 5 1 (.slice (some ⟨g, 0, none⟩) L L) L (u8s (hdrTo p M j)) ∧ wr2.ownsMap Tryz.prog 9 (plainElem Tryz.prog 4) w.heap.size k (KS ks k) ∧
        wr2.cell? ⟨fb, 0, none⟩ = some (.slice (some ⟨g, 0, none⟩) L L) ∧ wr2.cell? ⟨sb, 0, none⟩ = some (.int .i64 p) ∧ wr2.cell? ⟨sb, 1, none⟩ = some (.int .u32 M) ∧ Hid (Below w.heap.size w wr2) ∧ fb < wr2.heap.size)
      (fun i _ => 4 - (intOf i).toNat)
    case atStart => exact ⟨0, by omega, rfl, HG0.out⟩
    case round =>
      obtain ⟨j, hj4, rfl, hO, hO4, c0, s2, s3, HB4, hz4⟩ := hrel
      clear HG0 HO1 HO2
      by_cases hj : j < 4
      case pos =>
        have hdj : decide ((j : Int) < 4) = true := decide_eq_true (by omega)
        have z0 := (hO.cellAt (2 + j) (by omega))
        rw [u8s_getElem (hdrTo_length p M j ▸ (by rw [← HD.out, ← HL.out]; omega) : 2 + j < (hdrTo p M j).length)] at z0
        have f0 := hO.frozenAt (2 + j)
        have hst := hO.stored (2 + j) (.int .u8 ((M : Int) / 2 ^ (24 - 8 * j) % 256))
        have e0 : (u8s (hdrTo p M j)).set (2 + j) (.int .u8 ((M : Int) / 2 ^ (24 - 8 * j) % 256)) = u8s (hdrTo p M (j + 1)) := by
          show _ = u8s ((hdrTo p M j).set (2 + j) _)
          unfold u8s
          rw [List.map_set]
          unfold u8v
          rw [UInt8.toNat_ofNat', Int.natCast_emod, Int.natCast_ediv, Int.natCast_pow]; rfl
        rw [e0] at hst
        have hG := grown_drew hst.2
        have HO1 := Lib.hid (own_drew hst.1)
        have g1 := Lib.hid (hO4.kept hG (by intro e; injection e with e; omega))
        have g2 := Lib.hid (hG.cell c0 (by simpa using hgf))
        have g3 := Lib.hid (hG.cell s2 (by simpa using hgs))
        have g4 := Lib.hid (hG.cell s3 (by simpa using hgs))
        have g5 := Lib.hid (HB4.out.grown hG HB4.out.size (by intro j hj; injection hj with hj; omega))
        have g6 := Lib.hid (Nat.lt_of_lt_of_le hz4 hG.size)
        clear hO hst hG e0 hO4
        go_wp2
        go_region
        go_wp2
        go_roundw
        case rel => exact ⟨j + 1, by omega, by go_num, HO1.out, g1.out, g2.out, g3.out, g4.out, g5, g6.out⟩
        case measure => simp [intOf]; omega
      have e4 : j = 4 := by omega
      subst e4
      rw [hdr_done] at hO
      have hrb : w.heap.size < wr.heap.size := by omega
      clear hj hj4
      go_wp2_with (at_range; refine wpList_range_own _ rfl _ 257 rfl 9 4 law_str Tryz.underlying257 _ w.heap.size k _ rfl hO4 ?_; intro w5 hrg5 hg5 hs5)
      go_frame
      obtain ⟨rb, hrbe⟩ : ∃ rb, rb = wr.heap.size := ⟨_, rfl⟩
      rw [← hrbe] at hrg5 hs5 hz4 hrb ⊢
      have a0 := hO.kept hg5 (Classical.em _)
      have a1 := hg5.cell c0 (by simp)
      have a2 := hg5.cell s2 (by simp)
      have a3 := hg5.cell s3 (by simp)
      have a4 := Lib.hid (HB4.out.grown hg5 HB4.out.size (by simp))
      have a5 : fb < w5.heap.size := by omega
      have hgr : g ≠ rb := by omega
      have hfr : fb ≠ rb := by omega
      have hsr : sb ≠ rb := by omega
      clear hO hO4 c0 s2 s3 HB4 hz4 hrbe hg5
      go_loopw [13] (fun _ wr2 => ∃ (left : Lit → Bool) (cnt : Nat), wr2.ranges Tryz.prog 9 (plainElem Tryz.prog 4) w.heap.size rb k (KS ks k) left cnt ∧ wr2.ownsRow w.heap.size 5 1 (.slice (some ⟨g, 0, none⟩) L L) L (u8s (filterB p M (doneS p M ks left))) ∧
          wr2.cell? ⟨fb, 0, none⟩ = some (.slice (some ⟨g, 0, none⟩) L L) ∧ wr2.cell? ⟨sb, 0, none⟩ = some (.int .i64 p) ∧ wr2.cell? ⟨sb, 1, none⟩ = some (.int .u32 M) ∧ Hid (Below w.heap.size w wr2) ∧ fb < wr2.heap.size ∧ Hid (∀ x, left (.string x) = true → x ∈ ks))
        (fun _ wr2 => wr2.rangeLeft w.heap.size rb)
      case atStart => exact ⟨_, _, hrg5, by rw [doneS_start]; exact a0; intro x hx; exact HHas.out x ▸ List.contains_iff_mem.2 hx, a1, a2, a3, a4, a5, Lib.hid fun x hx => List.contains_iff_mem.1 (HHas.out x ▸ hx)⟩
      case round =>
        obtain ⟨left, cnt, hrg, hO, c0, s2, s3, HB4, hz4, HL4⟩ := hrel
        clear hrg5 a0 a1 a2 a3 a4 a5
        go_wp2_with (at_next; refine wpList_next_ranges _ rfl _ rfl 9 law_str _ Value.string (fun v : Value => v) (fun key kl hkey => keyOf_string_inv Tryz.underlying9 hkey) (fun v _ _ => ⟨v, rfl⟩) w.heap.size rb k _ _ _ rfl hrg ?_ ?_)
        · intro _ hl0
          rw [doneS_end _ _ _ _ hl0] at hO
          have HP : Hid (BuildPost nb ks w (.returned (.tuple #[.slice (some ⟨g, 0, none⟩) L L, .int .i64 0])) wr) := Lib.hid (by
            have e : L = (buildB nb ks).length := by rw [buildB_length, ← HM.out, ← HD.out, ← HL.out]
            refine .inl ⟨h0, g, by rw [← e], ?_, HB4.out⟩
            rw [← e]
            unfold buildB
            rw [← HM.out, ← Hp.out]
            exact hO)
          clear hO
          go_wp2
          go_ret2
          exact HP.out
        · intro x y kl za zb w6 cnt6 hkl hlk _ _ hrg6 hlt6 hg6 hs6 hen
          have hx := keyOf_string_inv' Tryz.underlying9 hkl
          subst hx
          have HX := HL4.out _ hlk
          have Hxl := Lib.hid (HKL.out _ HX)
          have b0 := hO.kept hg6 (.inr (by intro e; injection e with e; exact hgr e))
          have b1 := hg6.cell c0 (by simpa using hfr)
          have b2 := hg6.cell s2 (by simpa using hsr)
          have b3 := hg6.cell s3 (by simpa using hsr)
          have b4 := Lib.hid (HB4.out.grown hg6 HB4.out.size (by intro j hj; injection hj with hj; omega))
          have b5 : fb < w6.heap.size := by omega
          clear hO c0 s2 s3 HB4 hz4 hg6 hkl hs6
          have HST : Hid (setAll (filterB p M (doneS p M ks left)) (placesN x.data.toList p M) = filterB p M (doneS p M ks (fun z => left z && !z.sameKey (.string x.data.toList)))) := Lib.hid (by
            rw [filterB_setAll p M hM3 _ _ (placesN_lt _ _ _ (by omega))]
            exact filterB_ext _ _ fun i _ => doneS_step _ _ _ _ _ HX i)
          have HL6 : Hid (∀ y, (fun z => left z && !z.sameKey (.string x.data.toList)) (Lit.string y) = true → y ∈ ks) := Lib.hid fun y hy => HL4.out y (by
            have := (Bool.and_eq_true _ _ ▸ hy : left (Lit.string y) = true ∧ _)
            exact this.1)
          have HW1 : Hid (0 < M) := Lib.hid (by omega)
          have HW2 : Hid (6 + M / 8 = L) := Lib.hid (by rw [HL.out, HD.out])
          have HW3 : Hid (x.size ≤ 9223372036854775807) := Lib.hid Hxl.out
          clear HX HL4 hlk
          go_wp2_with (first
            | (refine wpList_bytes_of rfl _ 9 34 5 rfl Tryz.underlying9 Tryz.underlying34 Tryz.underlying5 _ rfl ?_; intro cap w7 hk7 hg7 hs7; have d0 := b0.kept hg7 (Classical.em _); have d1 := hg7.cell b1 (by simp); have d2 := hg7.cell b2 (by simp); have d3 := hg7.cell b3 (by simp); have d4 := Lib.hid (b4.out.grown hg7 b4.out.size (by simp)); have d5 : fb < w7.heap.size := (by omega); have d6 := hrg6.kept hg7 (by simp) (by simp); have HK7 := Lib.hid hk7; have HO7 := Lib.hid d0; clear hk7 d0 hg7 hs7 b1 b2 b3 b4 b5 hrg6)
            | (go_at_call 158; refine (each_set _ x.data.toList _ w.heap.size g L L x.size cap fb p M w7 d1 hgf HO7.out HW3.out HK7.out hp2 HW1.out hM1 HW2.out hM3).mono ?_; rintro e w8 ⟨rfl, hO8, hG8⟩; rw [HST.out] at hO8))
          have e1 := hG8.cell d1 (by simpa using hgf)
          have e2 := hG8.cell d2 (by simpa using hgs)
          have e3 := hG8.cell d3 (by simpa using hgs)
          have e4 := Lib.hid (d4.out.grown hG8 d4.out.size (by intro j hj; injection hj with hj; omega))
          have e5 := Nat.lt_of_lt_of_le d5 hG8.size
          have e6 := d6.kept hG8 (by intro e; injection e with e; omega) (by intro e; injection e with e; omega)
          clear hG8
          go_roundw
          case rel => exact ⟨_, _, _, _, _, _, _, _, _, _, ⟨_, cnt6, e6, hO8, e1, e2, e3, e4, e5, HL6⟩, rfl⟩
          case measure => rw [e6.left_eq, hrg.left_eq]; exact hlt6
end Go.Proofs.YtfdbcfaeiglbeaaGreatDoor
namespace Go.Proofs.YtfdbcfaeiglbeaaGreatDoor
open Go.RowKit
noncomputable def cntO {α : Type} (a : α) (l : List α) : Nat := @List.count α (@instBEqOfDecidableEq α (fun a b => Classical.propDecidable (a = b))) a l
noncomputable def cnt1 {α : Type} (a x : α) : Nat := cntO a [x]
theorem cntO_app {α : Type} (a : α) (l m : List α) : cntO a (l ++ m) = cntO a l + cntO a m := by
  letI : DecidableEq α := fun a b => Classical.propDecidable (a = b)
  exact List.count_append
theorem cntO_cons {α : Type} (a x : α) (l : List α) : cntO a (x :: l) = cnt1 a x + cntO a l := by
  unfold cnt1
  rw [← cntO_app]; rfl
theorem cntO_nil {α : Type} (a : α) : cntO a [] = 0 := by
  letI : DecidableEq α := fun a b => Classical.propDecidable (a = b)
  exact List.count_nil
theorem perm_of_cnt {α : Type} {l m : List α} (h : ∀ a, cntO a l = cntO a m) : l.Perm m := by
  letI : DecidableEq α := fun a b => Classical.propDecidable (a = b)
  exact List.perm_iff_count.2 fun a => h a
section
variable {P : Program} {Q : Exit → Act → World → Prop} {F : List Nat} {S : World → Prop} {l : List Oper} {listed : Array Bool} {fuel : Nat} {a : Act} {w : World}
end
section
variable {α : Type} {P : Program}
end
end Go.Proofs.YtfdbcfaeiglbeaaGreatDoor
