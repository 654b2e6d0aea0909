/-
  Laid together by merge.py: BlockLaw, CellP2, WireW10, WireW11, CellW3, WireW12, CellW4, CellP3, CellW5, CellW6, WireW9, CellW8, CellR1, WireR1, WireW13, WireR3, WireR4, CellR2, CellR3, CellR4, WireR2, CellR6.
-/
import Derived.Test.YtmigjipfomfacaaDoorBu2
import Derived.Test.YtmigjipfomfacaaDoorBu1
import Derived.Deep.QuietTactic
import Derived.BigQuiet
import Derived.Laws.OwnMore
import Derived.Deep.DeepCutAuto
import Derived.Deep.RegionHeld3
import Derived.Deep.CutRange
namespace Go.Proofs.YtmigjipfomfacaaDoor
open Go.RowKit Go.WideShapes Go.ChangeShapes Go.Joins Go.Deep
theorem ens_of_cells {w : World} {b o n : Nat} (hb : b < w.heap.size) (h : ∀ i, i < n → ∃ r : ER, (∀ j v, r.cells[j]? = some v → w.cell? ⟨b, o + (i * 7 + j), none⟩ = some v) ∧ r.En w) : ∃ L, Ens w (some ⟨b, o, none⟩) n L := by
  have hh : ∀ m, m ≤ n → ∃ rs : List ER, rs.length = m ∧ (∀ i r, rs[i]? = some r → (∀ j v, r.cells[j]? = some v → w.cell? ⟨b, o + (i * 7 + j), none⟩ = some v) ∧ r.En w) := by
    intro m
    induction m with
    | zero => intro _; exact ⟨[], rfl, fun i r hr => by cases hr⟩
    | succ m ih =>
      intro hm
      obtain ⟨rs, h1, h2⟩ := ih (by omega)
      obtain ⟨r, hr⟩ := h m (by omega)
      refine ⟨rs ++ [r], by rw [List.length_append, h1]; rfl, fun i q hq => ?_⟩
      rw [List.getElem?_append] at hq
      split at hq
      · exact h2 i q hq
      · rename_i hlt
        obtain rfl : i = m := by
          have := (List.getElem?_eq_some_iff.1 hq).1
          simp at this; omega
        rw [h1, Nat.sub_self] at hq
        injection hq with hq
        subst hq; exact hr
  obtain ⟨rs, h1, h2⟩ := hh n (Nat.le_refl _)
  refine ⟨rs.map ER.e, rs, rfl, ⟨by rw [flat7_len, h1], fun _ => ⟨b, o, rfl, hb, fun j u hu => ?_⟩⟩, fun r hr => ?_⟩
  · have hj : j < rs.length * 7 := by have := (List.getElem?_eq_some_iff.1 hu).1; rwa [flat7_len] at this
    obtain ⟨r, hr⟩ : ∃ r, rs[j / 7]? = some r := ⟨_, List.getElem?_eq_getElem (by omega)⟩
    have e : j = j / 7 * 7 + j % 7 := by omega
    rw [e] at hu ⊢
    rw [flat7_at hr (j % 7) (by omega)] at hu
    exact (h2 _ r hr).1 (j % 7) u hu
  · obtain ⟨i, hi⟩ := List.getElem?_of_mem hr
    exact (h2 i r hi).2
section
variable {H : Type} {enc : TypeId × Value → H} {w : World} {base : Nat} {held : Bool}
set_option maxRecDepth 100000 in
theorem upto_ents {fuel : Nat} {cs : List Value} {x : DataW H × List MemPlace} (h : DataW.trod enc Tryd.prog w base (fun _ => true) held fuel 22 cs = some x) (hb : Rows.uptoBulk x.1 ≤ 1048576) :
    ∃ (A : Option Addr) (n c : Nat) (L : List Ent), cs = [.slice A n c] ∧ n ≤ c ∧ c ≤ 1048576 ∧ Ens w A n L := by
  rcases upto_structs Tryd.underlying22 Tryd.underlying37 (by kernel_rfl) (by kernel_rfl) h with rfl | ⟨a, len, cap, rfl, hl, hm, hc, hi⟩
  · exact ⟨none, 0, 0, [], rfl, by omega, by omega, Ens.nil⟩
  · rcases Nat.eq_zero_or_pos len with h0 | hn
    · subst h0; exact ⟨some a, 0, cap, [], rfl, hl, by omega, Ens.nil⟩
    obtain ⟨v, y, n, c0, _⟩ := hi 0 hn 0 _ rfl
    have c0' : w.cell? (a.add 0) = some v := c0
    rw [show a.add 0 = a from by simp [Addr.add]] at c0'
    have hsp := spot_none c0'
    have hb0 := World.block_lt_of_cell? w a c0'
    obtain ⟨L, hL⟩ := ens_of_cells (w := w) (b := a.block) (o := a.off) (n := len) hb0 fun i him => by
      obtain ⟨v0, y0, n0, c0, t0, u0⟩ := hi i him 0 _ rfl
      obtain ⟨v1, y1, n1, c1, t1, _⟩ := hi i him 1 _ rfl
      obtain ⟨v2, y2, n2, c2, t2, u2⟩ := hi i him 2 _ rfl
      obtain ⟨v3, y3, n3, c3, t3, _⟩ := hi i him 3 _ rfl
      obtain ⟨v4, y4, n4, c4, t4, _⟩ := hi i him 4 _ rfl
      obtain ⟨v5, y5, n5, c5, t5, _⟩ := hi i him 5 _ rfl
      obtain ⟨v6, y6, n6, c6, t6, u6⟩ := hi i him 6 _ rfl
      obtain ⟨A, m, c, l, rfl, hs, _⟩ := field_bytes Tryd.underlying24 Tryd.underlying5 (by kernel_rfl) t0
      obtain ⟨fam, rfl, _⟩ := field_int Tryd.underlying3 t1
      obtain ⟨B, m2, d, l2, rfl, hs2, _⟩ := field_bytes Tryd.underlying24 Tryd.underlying5 (by kernel_rfl) t2
      obtain ⟨ts, rfl, _⟩ := field_int Tryd.underlying3 t3
      obtain ⟨sq, rfl, _⟩ := field_int Tryd.underlying3 t4
      obtain ⟨kd, rfl, _⟩ := field_int Tryd.underlying3 t5
      obtain ⟨D, m3, q, l3, rfl, hs3, _⟩ := field_bytes Tryd.underlying24 Tryd.underlying5 (by kernel_rfl) t6
      have e1 := hs.rb.len
      have e2 := hs2.rb.len
      have e3 := hs3.rb.len
      subst e1 e2 e3
      rw [addr_add _ _ hsp] at c0 c1 c2 c3 c4 c5 c6
      refine ⟨⟨A, c, B, d, D, q, ⟨l, fam, l2, ts, sq, kd, l3⟩⟩, fun j v hj => ?_, ⟨hs, hs2, hs3⟩⟩
      match j, hj with
      | 0, hj => injection hj with hj; subst hj; exact c0
      | 1, hj => injection hj with hj; subst hj; exact c1
      | 2, hj => injection hj with hj; subst hj; exact c2
      | 3, hj => injection hj with hj; subst hj; exact c3
      | 4, hj => injection hj with hj; subst hj; exact c4
      | 5, hj => injection hj with hj; subst hj; exact c5
      | 6, hj => injection hj with hj; subst hj; exact c6
    exact ⟨some a, len, cap, L, rfl, hl, by omega, by obtain ⟨b, o, sp⟩ := a; simp at hsp; subst hsp; exact hL⟩
set_option maxRecDepth 100000 in
theorem upto_ents_top {r : Reach} {b0 : Nat} {v : Value} {d : DataW H} {ps : List MemPlace} (hval : Value.okWide Tryd.prog w r b0 22 v) (h : DataW.Trod enc Tryd.prog w base (fun _ => true) held 22 v d ps) (hb : Rows.uptoBulk d ≤ 1048576) :
    ∃ (A : Option Addr) (n c : Nat) (L : List Ent), v = .slice A n c ∧ n ≤ 1048576 ∧ Ens w A n L := by
  obtain ⟨fuel, hf⟩ := open_slice_top Tryd.underlying22 hval h
  obtain ⟨A, n, c, L, h1, h2, h3, h4⟩ := upto_ents hf hb
  injection h1 with h1
  exact ⟨A, n, c, L, h1, by omega, h4⟩
set_option maxRecDepth 100000 in
theorem full_ents {fuel : Nat} {cs : List Value} {x : DataW H × List MemPlace} (h : DataW.trod enc Tryd.prog w base (fun _ => true) held fuel 22 cs = some x) :
    ∃ (A : Option Addr) (n c : Nat) (L : List Ent), cs = [.slice A n c] ∧ n ≤ c ∧ c ≤ 9223372036854775807 ∧ Ens w A n L := by
  rcases upto_structs Tryd.underlying22 Tryd.underlying37 (by kernel_rfl) (by kernel_rfl) h with rfl | ⟨a, len, cap, rfl, hl, hm, _, hi⟩
  · exact ⟨none, 0, 0, [], rfl, by omega, by omega, Ens.nil⟩
  · rcases Nat.eq_zero_or_pos len with h0 | hn
    · subst h0; exact ⟨some a, 0, cap, [], rfl, hl, hm, Ens.nil⟩
    obtain ⟨v, y, n, c0, _⟩ := hi 0 hn 0 _ rfl
    have c0' : w.cell? (a.add 0) = some v := c0
    rw [show a.add 0 = a from by simp [Addr.add]] at c0'
    have hsp := spot_none c0'
    have hb0 := World.block_lt_of_cell? w a c0'
    obtain ⟨L, hL⟩ := ens_of_cells (w := w) (b := a.block) (o := a.off) (n := len) hb0 fun i him => by
      obtain ⟨v0, y0, n0, c0, t0, u0⟩ := hi i him 0 _ rfl
      obtain ⟨v1, y1, n1, c1, t1, _⟩ := hi i him 1 _ rfl
      obtain ⟨v2, y2, n2, c2, t2, u2⟩ := hi i him 2 _ rfl
      obtain ⟨v3, y3, n3, c3, t3, _⟩ := hi i him 3 _ rfl
      obtain ⟨v4, y4, n4, c4, t4, _⟩ := hi i him 4 _ rfl
      obtain ⟨v5, y5, n5, c5, t5, _⟩ := hi i him 5 _ rfl
      obtain ⟨v6, y6, n6, c6, t6, u6⟩ := hi i him 6 _ rfl
      obtain ⟨A, m, c, l, rfl, hs, _⟩ := field_bytes Tryd.underlying24 Tryd.underlying5 (by kernel_rfl) t0
      obtain ⟨fam, rfl, _⟩ := field_int Tryd.underlying3 t1
      obtain ⟨B, m2, d, l2, rfl, hs2, _⟩ := field_bytes Tryd.underlying24 Tryd.underlying5 (by kernel_rfl) t2
      obtain ⟨ts, rfl, _⟩ := field_int Tryd.underlying3 t3
      obtain ⟨sq, rfl, _⟩ := field_int Tryd.underlying3 t4
      obtain ⟨kd, rfl, _⟩ := field_int Tryd.underlying3 t5
      obtain ⟨D, m3, q, l3, rfl, hs3, _⟩ := field_bytes Tryd.underlying24 Tryd.underlying5 (by kernel_rfl) t6
      have e1 := hs.rb.len
      have e2 := hs2.rb.len
      have e3 := hs3.rb.len
      subst e1 e2 e3
      rw [addr_add _ _ hsp] at c0 c1 c2 c3 c4 c5 c6
      refine ⟨⟨A, c, B, d, D, q, ⟨l, fam, l2, ts, sq, kd, l3⟩⟩, fun j v hj => ?_, ⟨hs, hs2, hs3⟩⟩
      match j, hj with
      | 0, hj => injection hj with hj; subst hj; exact c0
      | 1, hj => injection hj with hj; subst hj; exact c1
      | 2, hj => injection hj with hj; subst hj; exact c2
      | 3, hj => injection hj with hj; subst hj; exact c3
      | 4, hj => injection hj with hj; subst hj; exact c4
      | 5, hj => injection hj with hj; subst hj; exact c5
      | 6, hj => injection hj with hj; subst hj; exact c6
    exact ⟨some a, len, cap, L, rfl, hl, hm, by obtain ⟨b, o, sp⟩ := a; simp at hsp; subst hsp; exact hL⟩
set_option maxRecDepth 100000 in
theorem full_ents_top {r : Reach} {b0 : Nat} {v : Value} {d : DataW H} {ps : List MemPlace} (hval : Value.okWide Tryd.prog w r b0 22 v) (h : DataW.Trod enc Tryd.prog w base (fun _ => true) held 22 v d ps) :
    ∃ (A : Option Addr) (n c : Nat) (L : List Ent), v = .slice A n c ∧ n ≤ 9223372036854775807 ∧ Ens w A n L := by
  obtain ⟨fuel, hf⟩ := open_slice_top Tryd.underlying22 hval h
  obtain ⟨A, n, c, L, h1, h2, h3, h4⟩ := full_ents hf
  injection h1 with h1
  exact ⟨A, n, c, L, h1, by omega, h4⟩
end
end Go.Proofs.YtmigjipfomfacaaDoor
namespace Go.Proofs.YtmigjipfomfacaaDoor
open Go.RowKit
def noEnt : Ent := ⟨[], 0, [], 0, 0, 0, []⟩
def atB (b : List UInt8) (k : Nat) : Nat := (b[k]?.getD 0).toNat
def parseN (b row : List UInt8) (fam : Nat) (qual : List UInt8) (a : Nat) : Option (Ent × Nat) :=
  if (readFl b (a : Nat)).2.2 ≠ 0 then none
  else if (readFl b ((readFl b (a : Nat)).2.1 : Nat)).2.2 ≠ 0 ∨ b.length ≤ (readFl b ((readFl b (a : Nat)).2.1 : Nat)).2.1 then none
  else some (⟨row, fam, qual, ((readFl b (a : Nat)).1 : Nat), ((readFl b ((readFl b (a : Nat)).2.1 : Nat)).1 : Nat), atB b (readFl b ((readFl b (a : Nat)).2.1 : Nat)).2.1, []⟩, (readFl b ((readFl b (a : Nat)).2.1 : Nat)).2.1 + 1)
def parseQ (b row : List UInt8) (fam : Nat) (a : Nat) : Option (Ent × Nat) :=
  if (readO b (a : Nat)).2.2 ≠ 0 ∨ b.length ≤ (readO b (a : Nat)).2.1 then none else parseN b row fam (readO b (a : Nat)).1 ((readO b (a : Nat)).2.1 + 1)
def parseE (b : List UInt8) : Option (Ent × Nat) :=
  if (readO b 0).2.2 ≠ 0 ∨ b.length < (readO b 0).2.1 + 2 then none
  else if atB b ((readO b 0).2.1 + 1) ≠ 0 then parseQ b (readO b 0).1 (atB b (readO b 0).2.1) ((readO b 0).2.1 + 2)
  else parseN b (readO b 0).1 (atB b (readO b 0).2.1) [] ((readO b 0).2.1 + 2)
def ParseKeyO (b : List UInt8) (o : Option (Ent × Nat)) : Ent × Int := match o with
  | none => (noEnt, 27)
  | some (e, _) => if checkE e = 0 ∧ keyE e = b then (e, 0) else (noEnt, 27)
def ParseKeyE (b : List UInt8) : Ent × Int := ParseKeyO b (parseE b)
theorem atB_mid (p : List UInt8) (c : UInt8) (r : List UInt8) {k : Nat} (hk : k = p.length) : atB (p ++ c :: r) k = c.toNat := by
  subst hk
  unfold atB
  rw [List.getElem?_append_right (Nat.le_refl _)]
  simp
theorem numK_back (p r : List UInt8) {t : Int} (h0 : 0 ≤ t) (h1 : t ≤ 17592186044431) {k : Nat} (hk : k = p.length) : readFl (p ++ (numK t ++ r)) (k : Nat) = (t.toNat, k + 8, 0) := by
  subst hk
  have := readFl_back p r t.toNat (by omega)
  rw [List.append_assoc] at this
  exact this
theorem readO_back' (p s r : List UInt8) {k : Nat} (hk : k = p.length) : readO (p ++ (ordB s ++ r)) (k : Nat) = (s, k + (ordB s).length, 0) := by
  subst hk
  have := readO_back p s r
  rw [List.append_assoc] at this
  exact this
theorem parseN_back {e : Ent} (h : OkE e) (p r : List UInt8) (row : List UInt8) (fam : Nat) (qual : List UInt8) {k : Nat} (hk : k = p.length) : parseN (p ++ (tailK e ++ r)) row fam qual k = some (⟨row, fam, qual, e.ts, e.seq, e.kind, []⟩, k + 17) := by
  have ht := h.ts; have hs := h.seq; have hd := h.kind
  have h1 : readFl (p ++ (tailK e ++ r)) (k : Nat) = (e.ts.toNat, k + 8, 0) := by
    have := numK_back p (numK e.seq ++ [UInt8.ofNat e.kind.toNat] ++ r) (t := e.ts) (by omega) (by omega) hk
    unfold tailK
    simp only [List.append_assoc] at *
    exact this
  have h2 : readFl (p ++ (tailK e ++ r)) ((k + 8 : Nat) : Nat) = (e.seq.toNat, k + 8 + 8, 0) := by
    have := numK_back (p ++ numK e.ts) ([UInt8.ofNat e.kind.toNat] ++ r) (t := e.seq) (by omega) (by omega) (k := k + 8) (by rw [List.length_append, numK_len]; omega)
    unfold tailK
    simp only [List.append_assoc] at *
    exact this
  have h3 : atB (p ++ (tailK e ++ r)) (k + 8 + 8) = e.kind.toNat := by
    have := atB_mid (p ++ (numK e.ts ++ numK e.seq)) (UInt8.ofNat e.kind.toNat) r (k := k + 8 + 8) (by simp only [List.length_append, numK_len]; omega)
    have e1 : (UInt8.ofNat e.kind.toNat).toNat = e.kind.toNat := by have := byte_val (t := e.kind) (by omega) (by omega); omega
    rw [e1] at this
    rw [← this]
    unfold tailK
    simp only [List.append_assoc, List.singleton_append]
  unfold parseN
  rw [h1]
  simp only
  rw [if_neg (by simp), h2]
  simp only
  rw [if_neg, h3]
  · have a1 : ((e.ts.toNat : Nat) : Int) = e.ts := by omega
    have a2 : ((e.seq.toNat : Nat) : Int) = e.seq := by omega
    have a3 : ((e.kind.toNat : Nat) : Int) = e.kind := by omega
    rw [a1, a2, a3]
  · rintro (h | h)
    · exact h rfl
    · simp only [List.length_append, tailK_len] at h
      omega
theorem ofN {t : Int} (h0 : 0 ≤ t) (h1 : t ≤ 255) : (UInt8.ofNat t.toNat).toNat = t.toNat := by have := byte_val h0 h1; omega
theorem parse_back {e : Ent} (h : OkE e) (r : List UInt8) : parseE (keyE e ++ r) = some ({ e with val := [] }, (keyE e).length) := by
  have hf := h.fam
  have hk : keyE e ++ r = ordB e.row ++ (UInt8.ofNat e.fam.toNat :: flg (e.kind == 5) :: (qualK e ++ tailK e ++ r)) := by unfold keyE; simp
  have h0 : readO (keyE e ++ r) 0 = (e.row, (ordB e.row).length, 0) := by
    rw [hk]
    have := readO_back' [] e.row (UInt8.ofNat e.fam.toNat :: flg (e.kind == 5) :: (qualK e ++ tailK e ++ r)) (k := 0) rfl
    simpa using this
  have h1 : atB (keyE e ++ r) (ordB e.row).length = e.fam.toNat := by
    rw [hk, atB_mid _ _ _ rfl, ofN (by omega) (by omega)]
  have h2 : atB (keyE e ++ r) ((ordB e.row).length + 1) = (flg (e.kind == 5)).toNat := by
    have := atB_mid (ordB e.row ++ [UInt8.ofNat e.fam.toNat]) (flg (e.kind == 5)) (qualK e ++ tailK e ++ r) (k := (ordB e.row).length + 1) (by simp)
    rw [hk, ← this]
    simp
  have hlen : ¬ ((keyE e ++ r).length < (ordB e.row).length + 2) := by rw [hk]; simp only [List.length_append, List.length_cons]; omega
  have e1 : ((e.fam.toNat : Nat) : Int) = e.fam := by omega
  unfold parseE
  rw [h0]
  simp only
  rw [if_neg (by rintro (h | h); exact h rfl; exact hlen h), h1, h2]
  by_cases h5 : e.kind = 5
  · have hb : (e.kind == 5) = true := by simpa using h5
    rw [hb, if_neg (by simp [flg])]
    have hq := h.qual.2 h5
    have hs : keyE e ++ r = (ordB e.row ++ [UInt8.ofNat e.fam.toNat, flg true]) ++ (tailK e ++ r) := by rw [hk, hb]; unfold qualK; rw [if_pos h5]; simp
    rw [hs, parseN_back h _ _ _ _ _ (by simp)]
    have hl : (keyE e).length = (ordB e.row).length + 2 + 17 := by
      unfold keyE qualK
      rw [if_pos h5]
      simp only [List.length_append, List.length_cons, tailK_len, List.length_nil]
    rw [hl, e1, hq]
  · have hb : (e.kind == 5) = false := by simpa using h5
    rw [hb, if_pos (by simp [flg])]
    have hs : keyE e ++ r = (ordB e.row ++ [UInt8.ofNat e.fam.toNat, flg false]) ++ (ordB e.qual ++ (flg (e.kind == 4) :: (tailK e ++ r))) := by rw [hk, hb]; unfold qualK; rw [if_neg h5]; simp
    have hs2 : keyE e ++ r = (ordB e.row ++ [UInt8.ofNat e.fam.toNat, flg false] ++ ordB e.qual ++ [flg (e.kind == 4)]) ++ (tailK e ++ r) := by rw [hs]; simp
    have h3 : readO (keyE e ++ r) (((ordB e.row).length + 2 : Nat) : Nat) = (e.qual, (ordB e.row).length + 2 + (ordB e.qual).length, 0) := by
      rw [hs]; exact readO_back' _ _ _ (by simp)
    unfold parseQ
    rw [h3]
    simp only
    have hlen2 : ¬ ((keyE e ++ r).length ≤ (ordB e.row).length + 2 + (ordB e.qual).length) := by rw [hs2]; simp only [List.length_append, List.length_cons, List.length_nil]; omega
    rw [if_neg (by rintro (h | h); exact h rfl; exact hlen2 h), hs2, parseN_back h _ _ _ _ _ (by simp only [List.length_append, List.length_cons, List.length_nil]), e1]
    have hl : (keyE e).length = (ordB e.row).length + 2 + (ordB e.qual).length + 1 + 17 := by
      unfold keyE qualK
      rw [if_neg h5]
      simp only [List.length_append, List.length_cons, tailK_len, List.length_nil]
      omega
    rw [hl]
theorem parse_key {e : Ent} (h : OkE e) : parseE (keyE e) = some ({ e with val := [] }, (keyE e).length) := by
  have := parse_back h []
  rwa [List.append_nil] at this
theorem keyE_bare (e : Ent) (v : List UInt8) : keyE { e with val := v } = keyE e := rfl
theorem OkE.bare {e : Ent} (h : OkE e) : OkE { e with val := [] } := ⟨h.row, h.fam, h.qual, h.ts, h.seq, h.kind, by simp, fun _ => rfl⟩
theorem ParseKey_back {e : Ent} (h : OkE e) : ParseKeyE (keyE e) = ({ e with val := [] }, 0) := by
  unfold ParseKeyE
  rw [parse_key h]
  exact if_pos ⟨of_ok h.bare, rfl⟩
theorem parse_end {b : List UInt8} {e : Ent} {p : Nat} (h : parseE b = some (e, p)) (hp : p ≠ b.length) : ParseKeyE b = (noEnt, 27) := by
  unfold ParseKeyE
  rw [h]
  refine if_neg ?_
  rintro ⟨h1, h2⟩
  have := parse_key (ok_of h1)
  rw [h2, h] at this
  injection this with this
  injection this with _ this
  exact hp this
theorem ParseKey_is {b : List UInt8} (h : (ParseKeyE b).2 = 0) : OkE (ParseKeyE b).1 ∧ keyE (ParseKeyE b).1 = b ∧ (ParseKeyE b).1.val = [] := by
  unfold ParseKeyE at h ⊢
  cases hp : parseE b with
  | none => rw [hp] at h; exact absurd (show (27 : Int) = 0 from h) (by decide)
  | some x =>
    obtain ⟨e, p⟩ := x
    rw [hp] at h
    simp only [ParseKeyO] at h ⊢
    split at h
    · rename_i hh
      rw [if_pos hh]
      have h1 := parse_key (ok_of hh.1)
      rw [hh.2, hp] at h1
      injection h1 with h1
      injection h1 with h1 _
      refine ⟨ok_of hh.1, hh.2, ?_⟩
      show e.val = []
      rw [h1]
    · exact absurd h (by decide)
theorem ParseKey_err (b : List UInt8) : (ParseKeyE b).2 = 0 ∨ ParseKeyE b = (noEnt, 27) := by
  unfold ParseKeyE
  cases hp : parseE b with
  | none => exact .inr rfl
  | some x =>
    obtain ⟨e, p⟩ := x
    simp only [ParseKeyO]
    split
    · exact .inl rfl
    · exact .inr rfl
theorem readBy_most (l : List UInt8) (a most : Int) (h : (readBy l a most).2.2 = 0) : ((readBy l a most).1.length : Int) ≤ most := by
  unfold readBy at h ⊢
  split at h
  · exact absurd h (by decide)
  · rename_i q1
    rw [if_neg q1]
    split at h
    · exact absurd h (by assumption)
    · rename_i q2
      rw [if_neg q2]
      split at h
      · exact absurd h (by decide)
      · rename_i q3
        rw [if_neg q3]
        split at h
        · exact absurd h (by decide)
        · rename_i q4
          rw [if_neg q4]
          show ((cutS l _ _).length : Int) ≤ most
          unfold cutS
          rw [List.length_take]
          omega
def packB (e : Ent) : List UInt8 := (uintB (keyE e).length ++ keyE e) ++ (uintB e.val.length ++ e.val)
def PackE (e : Ent) : List UInt8 × Int := if checkE e = 0 then (packB e, 0) else ([], checkE e)
def UnpackV (b : List UInt8) (p : Nat) (e : Ent) : Ent × Nat × Int :=
  if (readBy b (p : Nat) 4096).2.2 ≠ 0 then (noEnt, 0, ((readBy b (p : Nat) 4096).2.2 : Nat))
  else if e.kind ≠ 1 ∧ 0 < (readBy b (p : Nat) 4096).1.length then (noEnt, 0, 29)
  else ({ e with val := (readBy b (p : Nat) 4096).1 }, (readBy b (p : Nat) 4096).2.1, 0)
def UnpackE (b : List UInt8) (a : Int) : Ent × Nat × Int :=
  if (readBy b a 1048).2.2 ≠ 0 then (noEnt, 0, ((readBy b a 1048).2.2 : Nat))
  else if (ParseKeyE (readBy b a 1048).1).2 ≠ 0 then (noEnt, 0, 29)
  else UnpackV b (readBy b a 1048).2.1 (ParseKeyE (readBy b a 1048).1).1
theorem unpack_back {e : Ent} (h : OkE e) (a r : List UInt8) : UnpackE (a ++ (packB e ++ r)) (a.length : Nat) = (e, a.length + (packB e).length, 0) := by
  have hl := keyE_len h
  have hv := h.val
  have h1 : readBy (a ++ (packB e ++ r)) (a.length : Nat) 1048 = (keyE e, a.length + (uintB (keyE e).length ++ keyE e).length, 0) := by
    have := readBy_back a ((uintB e.val.length ++ e.val) ++ r) (keyE e) 1048 (by omega) (by omega)
    unfold packB
    simp only [List.append_assoc] at *
    exact this
  have h2 : readBy (a ++ (packB e ++ r)) ((a.length + (uintB (keyE e).length ++ keyE e).length : Nat) : Nat) 4096 = (e.val, a.length + (packB e).length, 0) := by
    have := readBy_back (a ++ (uintB (keyE e).length ++ keyE e)) r e.val 4096 (by omega) (by omega)
    rw [show (a ++ (uintB (keyE e).length ++ keyE e)).length = a.length + (uintB (keyE e).length ++ keyE e).length from List.length_append] at this
    rw [show a.length + (packB e).length = a.length + (uintB (keyE e).length ++ keyE e).length + (uintB e.val.length ++ e.val).length from by unfold packB; rw [List.length_append]; omega, ← this]
    unfold packB
    simp only [List.append_assoc]
  unfold UnpackE
  rw [h1]
  simp only
  rw [if_neg (by simp), ParseKey_back h]
  simp only
  rw [if_neg (by simp)]
  unfold UnpackV
  rw [h2]
  simp only
  rw [if_neg (by simp), if_neg]
  rintro ⟨hk, hv0⟩
  rw [hv.2 hk] at hv0
  simp at hv0
theorem unpack_is {b : List UInt8} (h : (UnpackE b 0).2.2 = 0) : OkE (UnpackE b 0).1 ∧ (UnpackE b 0).2.1 ≤ b.length ∧ packB (UnpackE b 0).1 = b.take (UnpackE b 0).2.1 := by
  unfold UnpackE at h ⊢
  have e1 := readBy_end b 0 1048
  by_cases k0 : (readBy b 0 1048).2.2 = 0
  · rw [if_neg (by simpa using k0)] at h ⊢
    obtain ⟨q1, q2, q3, q4, q5⟩ := e1 k0
    by_cases k1 : (ParseKeyE (readBy b 0 1048).1).2 = 0
    · rw [if_neg (by simpa using k1)] at h ⊢
      obtain ⟨p1, p2, p3⟩ := ParseKey_is k1
      unfold UnpackV at h ⊢
      have e2 := readBy_end b ((readBy b 0 1048).2.1 : Nat) 4096
      by_cases k2 : (readBy b ((readBy b 0 1048).2.1 : Nat) 4096).2.2 = 0
      · rw [if_neg (by simpa using k2)] at h ⊢
        obtain ⟨r1, r2, r3, r4, r5⟩ := e2 k2
        have r6 := readBy_most b _ _ k2
        split at h
        · exact absurd h (by decide)
        · rename_i hh
          rw [if_neg hh]
          generalize hg : (ParseKeyE (readBy b 0 1048).1).1 = e at *
          generalize hk : (readBy b 0 1048) = K at *
          generalize hv : readBy b (K.2.1 : Nat) 4096 = V at *
          refine ⟨⟨p1.row, p1.fam, p1.qual, p1.ts, p1.seq, p1.kind, ?_, ?_⟩, r2, ?_⟩
          · have := r6; show V.1.length ≤ 4096; omega
          · intro hne
            show V.1 = []
            exact List.eq_nil_of_length_eq_zero (by have : ¬ 0 < V.1.length := fun h0 => hh ⟨hne, h0⟩; omega)
          · show (uintB (keyE e).length ++ keyE e) ++ (uintB V.1.length ++ V.1) = b.take V.2.1
            rw [p2, q1, r1]
            have := cutS_app b (a := 0) (q := K.2.1) (p := V.2.1) (by omega) (by have := r4; simp only [Int.toNat_natCast] at this; omega)
            simp only [Int.toNat_natCast] at *
            rw [show (0 : Int).toNat = 0 from rfl, this]
            unfold cutS
            simp
      · rw [if_pos k2] at h
        exact absurd h (by simpa using k2)
    · rw [if_pos k1] at h
      exact absurd h (by decide)
  · rw [if_pos k0] at h
    exact absurd h (by simpa using k0)
def StartE (row : List UInt8) : List UInt8 × Int := if row.length < 1 ∨ 256 < row.length then ([], 20) else (ordB row, 0)
def BehindE (row : List UInt8) : List UInt8 × Int := if row.length < 1 ∨ 256 < row.length then ([], 20) else (ordB row ++ [255], 0)
theorem rows_law {e : Ent} (h : OkE e) (d : List UInt8) : begB (ordB d) (keyE e) = decide (e.row = d) ∧ (decide (cmpB (ordB d) (keyE e) ≤ 0) && decide (cmpB (keyE e) (ordB d ++ [255]) < 0)) = decide (e.row = d) := by
  have hf := h.fam
  have hk : keyE e = ordB e.row ++ (UInt8.ofNat e.fam.toNat :: flg (e.kind == 5) :: (qualK e ++ tailK e)) := rfl
  by_cases hd : e.row = d
  · rw [decide_eq_true hd, ← hd]
    constructor
    · unfold begB
      rw [hk]
      simp
    · have c1 := cmp_ord e.row e.row [] (UInt8.ofNat e.fam.toNat :: flg (e.kind == 5) :: (qualK e ++ tailK e))
      rw [List.append_nil, ← hk, cmpB_self] at c1
      have c2 := cmp_ord e.row e.row (UInt8.ofNat e.fam.toNat :: flg (e.kind == 5) :: (qualK e ++ tailK e)) [255]
      rw [← hk, cmpB_self] at c2
      have c3 : cmpB (UInt8.ofNat e.fam.toNat :: flg (e.kind == 5) :: (qualK e ++ tailK e)) [255] = -1 := cmpB_lt (by rw [ofN (by omega) (by omega)]; show _ < 255; omega) _ _
      rw [c1, c2, c3]
      rfl
  · rw [decide_eq_false hd]
    have hne : cmpB d e.row ≠ 0 := fun h0 => hd (cmpB_zero _ _ h0).symm
    constructor
    · have hb : begB (ordB d) (keyE e) ≠ true := by
        intro hb
        unfold begB at hb
        rw [Bool.and_eq_true] at hb
        have h1 := of_decide_eq_true hb.1
        have h2 := eq_of_beq hb.2
        have h3 : keyE e = ordB d ++ (keyE e).drop (ordB d).length := by conv => lhs; rw [← List.take_append_drop (ordB d).length (keyE e), ← h2]
        have h4 := rdO_back d ((keyE e).drop (ordB d).length)
        rw [← h3] at h4
        have h5 := rdO_back e.row (UInt8.ofNat e.fam.toNat :: flg (e.kind == 5) :: (qualK e ++ tailK e))
        rw [← hk, h4] at h5
        injection h5 with h5 _
        exact hd h5.symm
      simpa using hb
    · have c1 := cmp_ord d e.row [] (UInt8.ofNat e.fam.toNat :: flg (e.kind == 5) :: (qualK e ++ tailK e))
      rw [List.append_nil, ← hk] at c1
      have c2 := cmp_ord e.row d (UInt8.ofNat e.fam.toNat :: flg (e.kind == 5) :: (qualK e ++ tailK e)) [255]
      rw [← hk, cmpB_swap d e.row] at c2
      rw [c1, c2]
      generalize cmpB d e.row = z at hne
      unfold seqC
      rw [if_neg hne, if_neg (by omega)]
      rw [Bool.and_eq_false_iff]
      by_cases hz : z ≤ 0
      · exact .inr (decide_eq_false (by omega))
      · exact .inl (decide_eq_false hz)
theorem prefix_free {a b : Ent} (ha : OkE a) (hb : OkE b) (n : Nat) (hp : (keyE a).take n = (keyE b).take n) (hn : n = (keyE a).length) : keyE a = keyE b := by
  subst hn
  rw [List.take_length] at hp
  have h3 : keyE b = keyE a ++ (keyE b).drop (keyE a).length := by conv => lhs; rw [← List.take_append_drop (keyE a).length (keyE b), ← hp]
  have h4 := parse_back ha ((keyE b).drop (keyE a).length)
  rw [← h3, parse_key hb] at h4
  injection h4 with h4
  injection h4 with h4 h5
  rw [hp]
  exact List.take_of_length_le (by omega)
theorem sorts_end {a b : Ent} (ha : OkE a) (hb : OkE b) {n : Nat} (hp : (keyE a).take n = (keyE b).take n) (hn : n = (keyE a).length ∨ n = (keyE b).length) : cmpE a b = 0 ∧ (keyE a).length = (keyE b).length := by
  have : keyE a = keyE b := by
    rcases hn with h | h
    · exact prefix_free ha hb n hp h
    · exact (prefix_free hb ha n hp.symm h).symm
  rw [← key_sorts ha hb, this, cmpB_self]
  exact ⟨rfl, rfl⟩
theorem sorts_mid {a b : Ent} (ha : OkE a) (hb : OkE b) {n : Nat} {c d : UInt8} (hp : (keyE a).take n = (keyE b).take n) (hc : (keyE a)[n]? = some c) (hd : (keyE b)[n]? = some d) (hne : c ≠ d) : cmpE a b = if c.toNat < d.toNat then -1 else 1 := by
  rw [← key_sorts ha hb, ← cmpB_drop _ _ n hp]
  obtain ⟨h1, h1'⟩ := List.getElem?_eq_some_iff.1 hc
  obtain ⟨h2, h2'⟩ := List.getElem?_eq_some_iff.1 hd
  rw [List.drop_eq_getElem_cons h1, List.drop_eq_getElem_cons h2, h1', h2', cmpB_cc]
  by_cases h : c.toNat < d.toNat
  · rw [if_pos h, if_pos h]
  · rw [if_neg h, if_neg h, if_pos (by have : c.toNat ≠ d.toNat := fun h => hne (UInt8.toNat_inj.1 h); omega)]
end Go.Proofs.YtmigjipfomfacaaDoor
namespace Go.Proofs.YtmigjipfomfacaaDoor
open Go.RowKit
theorem cmp_lt_at {a b : List UInt8} {k : Nat} {x y : UInt8} (h : a.take k = b.take k) (ha : a[k]? = some x) (hb : b[k]? = some y) (hxy : x.toNat < y.toNat) : cmpB a b = -1 := by
  obtain ⟨h1, rfl⟩ := List.getElem?_eq_some_iff.1 ha
  obtain ⟨h2, rfl⟩ := List.getElem?_eq_some_iff.1 hb
  rw [← cmpB_drop a b k h, List.drop_eq_getElem_cons h1, List.drop_eq_getElem_cons h2, cmpB_lt hxy]
theorem cmp_gt_at {a b : List UInt8} {k : Nat} {x y : UInt8} (h : a.take k = b.take k) (ha : a[k]? = some x) (hb : b[k]? = some y) (hxy : y.toNat < x.toNat) : cmpB a b = 1 := by
  obtain ⟨h1, rfl⟩ := List.getElem?_eq_some_iff.1 ha
  obtain ⟨h2, rfl⟩ := List.getElem?_eq_some_iff.1 hb
  rw [← cmpB_drop a b k h, List.drop_eq_getElem_cons h1, List.drop_eq_getElem_cons h2, cmpB_gt hxy]
theorem cmp_eq_at {a b : List UInt8} {k : Nat} {x : UInt8} (h : a.take k = b.take k) (ha : a[k]? = some x) (hb : b[k]? = some x) : a.take (k + 1) = b.take (k + 1) := by
  rw [take_snoc ha, take_snoc hb, h]
theorem cmp_end {a b : List UInt8} {k n m : Nat} (h : a.take k = b.take k) (ha : a.length = n) (hb : b.length = m) (hk : k = n) (hm : k ≤ m) : cmpB a b = if n < m then -1 else 0 := by
  subst hk
  rw [← cmpB_drop a b k h, List.drop_eq_nil_of_le (by omega)]
  split
  · rw [List.drop_eq_getElem_cons (by omega)]; rfl
  · rw [List.drop_eq_nil_of_le (by omega)]; rfl
theorem cmp_end2 {a b : List UInt8} {k n m : Nat} (h : a.take k = b.take k) (ha : a.length = n) (hb : b.length = m) (hk : k = m) (hm : k < n) : cmpB a b = 1 := by
  subst hk
  rw [← cmpB_drop a b k h, show b.drop k = [] from List.drop_eq_nil_of_le (by omega), List.drop_eq_getElem_cons (by omega)]; rfl
theorem ordB_take {l : List UInt8} {k : Nat} {y : UInt8} (h : l[k]? = some y) : (l.take (k + 1)).flatMap ordC = (l.take k).flatMap ordC ++ ordC y := by
  rw [take_snoc h, List.flatMap_append]; simp
set_option maxRecDepth 100000 in
set_option maxHeartbeats 1000000 in
theorem ordered_any (l : List UInt8) (A : Option Addr) (n c : Nat) (w : World) (hn : n ≤ 70368744177000) (hr : RB w w.heap.size A n l) :
    Calls Tryd.prog 52 #[.slice A n c] w (BytesPost 5 (ordB l) w) := by
  have HL := Lib.hid hr.len
  have HR : Hid (∀ w', Below w.heap.size w w' → RB w' w'.heap.size A n l) := Lib.hid fun w' h => hr.later h
  have HF : Hid (∀ k, ((l.take k).flatMap ordC).length ≤ 140737488354000) := Lib.hid fun k => by
    have := ordF_len (l.take k)
    have h2 : (l.take k).length ≤ l.length := by rw [List.length_take]; omega
    have h3 := HL.out
    omega
  clear hr
  go_enter Tryd.func52, Tryd.ntmps52
  go_wp2_with (at_make; go_must (refine wpList_make_own _ rfl (.const (.int .i64 0)) (.tmp 8) 24 rfl w.heap.size 5 Tryd.t5 (.int .u8 0) 1 Tryd.underlying24 (by kernel_rfl) rfl rfl .i64 .i64 _ (n + 2) rfl rfl (by omega) (by show 1 * _ ≤ _; omega) (by unfold maxLen; omega) (Nat.le_refl _) ?_); intro w1 hown1 hg1)
  have HB1 := Lib.hid (below_grown_none hg1)
  have HO1 := Lib.hid hown1
  clear hown1 hg1
  go_loopw [3, 12] (fun v i wr => ∃ (k : Nat) (P : List UInt8), k ≤ n ∧ i = .int .i64 k ∧ Hid (P = (l.take k).flatMap ordC) ∧ wr.ownsRow w.heap.size 5 1 v P.length (u8s P) ∧ Hid (Below w.heap.size w wr)) (fun _ i _ => n - (intOf i).toNat)
  case atStart => exact ⟨0, [], Nat.zero_le _, rfl, Lib.hid rfl, HO1.out, HB1⟩
  case round =>
    clear HO1 HB1
    obtain ⟨k, P, hk, rfl, HP, hown, HB⟩ := hrel
    obtain ⟨v, hv⟩ : ∃ v, v = u3 := ⟨_, rfl⟩
    rw [← hv] at hown ⊢
    clear hv
    have HPL : Hid (P.length ≤ 140737488354000) := Lib.hid (by rw [HP.out]; exact HF.out k)
    by_cases hlt : k < n
    case neg =>
      have HE : Hid (P ++ [0, 1] = ordB l) := Lib.hid (by rw [HP.out, take_all (by have := HL.out; omega)]; rfl)
      go_wp2_with (at_builtin; go_must (refine wpList_append_reads _ rfl (.tmp 26) (.tmp 27) rfl Tryd.u8s' w.heap.size v P.length (u8s P) rfl (hown.alloc _) (wr.heap.size + 1) (some ⟨wr.heap.size, 0, none⟩) 2 2 (u8s [0, 1]) rfl (by exact reads_lit wr _ [0, 1] _ _ rfl) (u8s_one _) (by have := HPL.out; unfold maxLen; omega) (by have := HPL.out; omega) (by have := HB.out.size; simp; omega) ?_); intro v1 w1 hown1 hg1 hat1)
      go_ret
      have hB : w.heap.size ≤ (wr.alloc (.cells #[.int .u8 0, .int .u8 1] 5)).heap.size := by have := HB.out.size; simp; omega
      have HB1 := below_app (HB.out.alloc HB.out.size _) (hown.alloc _) hg1 hB (Nat.le_refl _)
      rw [← u8s_append, HE.out] at hown1
      exact bytes_post hown1 HB1
    obtain ⟨b, o, y, rfl, _, hy, hcy⟩ := (HR.out _ HB.out).at_ hlt
    have HY := Lib.hid (ordB_take hy)
    clear hy
    by_cases h0 : y.toNat = 0
    · have HN : Hid ((P ++ [y]) ++ [255] = (l.take (k + 1)).flatMap ordC) := Lib.hid (by
        rw [HY.out, HP.out]
        unfold ordC
        rw [if_pos h0, UInt8.toNat_inj.1 (show y.toNat = (0 : UInt8).toNat from h0)]; simp)
      have hd : ((y.toNat : Int) == 0) = true := by rw [beq_iff_eq]; omega
      have tok1 : True := trivial
      clear HY h0
      go_wp2_with (first
        | (at_builtin; have _t := tok1; go_must (refine wpList_append_reads _ rfl (.tmp 16) (.tmp 18) rfl Tryd.u8s' w.heap.size v P.length (u8s P) rfl (hown.alloc _) (wr.heap.size + 1) (some ⟨wr.heap.size, 0, none⟩) 1 1 (u8s [y]) rfl (by exact reads_lit wr _ [y] _ _ rfl) (u8s_one _) (by have := HPL.out; unfold maxLen; omega) (by have := HPL.out; omega) (by have := HB.out.size; simp; omega) ?_); intro v1 w1 hown1 hg1 hat1; clear tok1; have HB1 := Lib.hid (below_app (HB.out.alloc HB.out.size (.cells #[.int .u8 (y.toNat : Int)] 5)) (hown.alloc _) hg1 (by have := HB.out.size; simp; omega) (Nat.le_refl _)); rw [← u8s_append] at hown1; have HO1 := Lib.hid hown1; clear hown1 hg1 hat1)
        | (at_builtin; go_must (refine wpList_append_reads _ rfl (.tmp 22) (.tmp 23) rfl Tryd.u8s' w.heap.size v1 (P.length + 1) (u8s (P ++ [y])) rfl (HO1.out.alloc _) (w1.heap.size + 1) (some ⟨w1.heap.size, 0, none⟩) 1 1 (u8s [255]) rfl (by exact reads_lit w1 _ [255] _ _ rfl) (u8s_one _) (by have := HPL.out; unfold maxLen; omega) (by have := HPL.out; omega) (by have := HB1.out.size; simp; omega) ?_); intro v2 w2 hown2 hg2 hat2; have HB2 := Lib.hid (below_app (HB1.out.alloc HB1.out.size (.cells #[.int .u8 255] 5)) (HO1.out.alloc _) hg2 (by have := HB1.out.size; simp; omega) (Nat.le_refl _)); rw [← u8s_append] at hown2; have HO2 := Lib.hid hown2; clear hown2 hg2 hat2))
      have hO2 : w2.ownsRow w.heap.size 5 1 v2 ((P ++ [y]) ++ [255]).length (u8s ((P ++ [y]) ++ [255])) := by
        have := HO2.out
        have e : ((P ++ [y]) ++ [(255 : UInt8)]).length = P.length + 1 + 1 := by simp
        rw [e]; exact this
      clear HO2 HO1
      go_roundw
      case rel => exact ⟨k + 1, (P ++ [y]) ++ [255], by omega, by go_num, HN, hO2, HB2⟩
      case measure => simp [intOf]; omega
    · have HN : Hid (P ++ [y] = (l.take (k + 1)).flatMap ordC) := Lib.hid (by
        rw [HY.out, HP.out]
        unfold ordC
        rw [if_neg h0])
      have hd : ((y.toNat : Int) == 0) = false := by rw [beq_eq_false_iff_ne]; omega
      clear HY h0
      go_wp2_with (at_builtin; go_must (refine wpList_append_reads _ rfl (.tmp 16) (.tmp 18) rfl Tryd.u8s' w.heap.size v P.length (u8s P) rfl (hown.alloc _) (wr.heap.size + 1) (some ⟨wr.heap.size, 0, none⟩) 1 1 (u8s [y]) rfl (by exact reads_lit wr _ [y] _ _ rfl) (u8s_one _) (by have := HPL.out; unfold maxLen; omega) (by have := HPL.out; omega) (by have := HB.out.size; simp; omega) ?_); intro v1 w1 hown1 hg1 hat1; have HB1 := Lib.hid (below_app (HB.out.alloc HB.out.size (.cells #[.int .u8 (y.toNat : Int)] 5)) (hown.alloc _) hg1 (by have := HB.out.size; simp; omega) (Nat.le_refl _)); rw [← u8s_append] at hown1; have HO1 := Lib.hid hown1; clear hown1 hg1 hat1)
      have hO1 : w1.ownsRow w.heap.size 5 1 v1 (P ++ [y]).length (u8s (P ++ [y])) := by
        have := HO1.out
        rw [show (P ++ [y]).length = P.length + 1 from by simp]; exact this
      clear HO1
      go_roundw
      case rel => exact ⟨k + 1, P ++ [y], by omega, by go_num, HN, hO1, HB1⟩
      case measure => simp [intOf]; omega
end Go.Proofs.YtmigjipfomfacaaDoor
namespace Go.Proofs.YtmigjipfomfacaaDoor
open Go.RowKit
theorem made_zeros (L : Nat) : (madeCells (Value.int IntKind.u8 0).cells L).toList = u8s (List.replicate L 0) := by
  have e : (Value.int IntKind.u8 0).cells = #[.int .u8 0] := rfl
  rw [e]
  apply List.ext_getElem?
  intro i
  simp only [madeCells, u8s, u8v, List.map_replicate, List.getElem?_replicate, Array.toList_map, Array.toList_range, List.getElem?_map, List.size_toArray, List.length_cons, List.length_nil, Nat.zero_add, Nat.mod_one]
  by_cases h : i < L
  · rw [if_pos h, List.getElem?_range h]; rfl
  · rw [if_neg h, List.getElem?_eq_none (by simpa using h)]; rfl
theorem rTo_zero (v : Nat) : rTo v 0 = List.replicate 8 0 := by simp [rTo, List.range_succ]
theorem u8s_set' (l : List UInt8) (k : Nat) (x : UInt8) : (u8s l).set k (u8v x) = u8s (l.set k x) := by
  unfold u8s
  rw [List.map_set]
set_option maxRecDepth 100000 in
theorem rising_neg (z : Int) (w : World) (hz : z < 0) : Calls Tryd.prog 86 #[.int .i64 z] w (BytesPost2 5 [] 1 w) := by
  have hd : decide (z < 0) = true := decide_eq_true hz
  go_enter Tryd.func86, Tryd.ntmps86
  go_wp2
  go_ret2
  exact bytes_none2 (Below.refl _ _)
set_option maxRecDepth 100000 in
theorem falling_neg (z : Int) (w : World) (hz : z < 0) : Calls Tryd.prog 54 #[.int .i64 z] w (BytesPost2 5 [] 1 w) := by
  have hd : decide (z < 0) = true := decide_eq_true hz
  go_enter Tryd.func54, Tryd.ntmps54
  go_wp2
  go_ret2
  exact bytes_none2 (Below.refl _ _)
set_option maxRecDepth 100000 in
set_option maxHeartbeats 1000000 in
theorem rising_any (v : Nat) (w : World) (hv : v < 9223372036854775808) : Calls Tryd.prog 86 #[.int .i64 v] w (BytesPost2 5 (risB v) 0 w) := by
  have hd : decide ((v : Int) < 0) = false := decide_eq_false (by omega)
  go_enter Tryd.func86, Tryd.ntmps86
  go_wp2_with (at_make; go_must (refine wpList_make_full _ rfl (.const (.int .i64 8)) (.const (.int .i64 8)) 24 rfl w.heap.size 5 Tryd.t5 (.int .u8 0) 1 Tryd.underlying24 (by kernel_rfl) rfl rfl .i64 .i64 _ _ 8 rfl rfl rfl rfl (by decide) (by decide) (Nat.le_refl _) ?_); intro w1 hown1 hg1)
  have HB1 := Lib.hid (below_grown_none hg1)
  have HO1 : Hid (OwnB 5 w.heap.size w1 (some ⟨w.heap.size, 0, none⟩) 8 (rTo v 0)) := Lib.hid (by
    unfold OwnB
    rw [rTo_len, rTo_zero, ← made_zeros 8]
    exact hown1)
  clear hown1 hg1
  obtain ⟨g, hg⟩ : ∃ g, g = w.heap.size := ⟨_, rfl⟩
  have HG := Lib.hid hg
  rw [← hg] at HO1 ⊢
  clear hg
  go_loopw [0, 5] (fun x i wr => ∃ (j : Nat) (X : Nat) (I : Int), j ≤ 8 ∧ Hid (X = v / 256 ^ j) ∧ X < 9223372036854775808 ∧ x = .int .i64 X ∧ I = 7 - (j : Int) ∧ i = .int .i64 I ∧ Hid (OwnB 5 g wr (some ⟨g, 0, none⟩) 8 (rTo v j)) ∧ Hid (Below w.heap.size w wr)) (fun _ i _ => (intOf i + 1).toNat)
  case atStart => exact ⟨0, v, 7, by omega, Lib.hid (by simp), hv, rfl, rfl, rfl, HO1, HB1⟩
  case round =>
    clear HO1 HB1
    obtain ⟨j, X, I, hj, HX, hXl, rfl, hI, rfl, HO, HB⟩ := hrel
    by_cases hlt : j < 8
    case neg =>
      obtain rfl : j = 8 := by omega
      have hd2 : decide ((0 : Int) ≤ I) = false := decide_eq_false (by omega)
      clear hI
      have HP : Hid (BytesPost2 5 (risB v) 0 w (.returned (.tuple #[.slice (some ⟨g, 0, none⟩) 8 8, .int .i64 0])) wr) := Lib.hid (by
        have h := HO.out
        unfold OwnB at h
        rw [rTo_len] at h
        rw [HG.out] at h ⊢
        exact bytes_post2 (n := 8) h HB.out)
      go_wp2
      go_ret2
      exact HP.out
    obtain ⟨D, rfl⟩ : ∃ D : Nat, I = (D : Int) := ⟨I.toNat, by omega⟩
    have hD : D = 7 - j := by omega
    have hDl : D < 8 := by omega
    have HD := Lib.hid hD
    clear hI hD
    obtain ⟨x, hx⟩ : ∃ x, (rTo v j)[D]? = some x := ⟨_, List.getElem?_eq_getElem (by rw [rTo_len]; exact hDl)⟩
    have hcx : wr.cell? ⟨g, D, none⟩ = some (.int .u8 (x.toNat : Int)) := (World.ownsRow.cellAt HO.out D (by rw [rTo_len]; omega)).trans (u8s_at hx)
    have hfr : wr.frozen? ⟨g, D, none⟩ = false := World.ownsRow.frozenAt HO.out _
    have hst := World.ownsRow.stored HO.out D (u8v (UInt8.ofNat X))
    rw [u8s_set', HX.out, HD.out, ← rTo_succ v j hlt, ← HX.out, ← HD.out, u8v_mod] at hst
    have HST := Lib.hid hst
    clear hst hx
    go_wp2
    have HB2 := Lib.hid (HB.out.grown HST.out.2 HB.out.size (fun b e => by injection e with e; rw [← e, HG.out]; exact Nat.le_refl _))
    have HO2 := Lib.hid (show OwnB 5 g _ (some ⟨g, 0, none⟩) 8 (rTo v (j + 1)) from by
      have := HST.out.1
      unfold OwnB
      rw [rTo_len] at this ⊢
      exact this)
    have HX2 : Hid (X / 256 = v / 256 ^ (j + 1)) := Lib.hid (by rw [HX.out, Nat.pow_succ, Nat.div_div_eq_div_mul])
    go_roundw
    case rel => exact ⟨j + 1, X / 256, (D : Int) - 1, by omega, HX2, by omega, rfl, by have := HD.out; omega, rfl, HO2, HB2⟩
    case measure => simp [intOf]
set_option maxRecDepth 100000 in
theorem falling_any (v : Nat) (w : World) (hv : v < 9223372036854775808) : Calls Tryd.prog 54 #[.int .i64 v] w (BytesPost2 5 (risB (9223372036854775807 - v)) 0 w) := by
  have hd : decide ((v : Int) < 0) = false := decide_eq_false (by omega)
  have HC : Hid (∀ z : Int, z = 9223372036854775807 - (v : Int) → ∀ w, Calls Tryd.prog 86 #[.int .i64 z] w (BytesPost2 5 (risB (9223372036854775807 - v)) 0 w)) := Lib.hid fun z hz w => by
    rw [show z = ((9223372036854775807 - v : Nat) : Int) from by omega]
    exact rising_any _ w (by omega)
  have k1 : IntKind.i64.wrap (9223372036854775807 - (v : Int)) = 9223372036854775807 - (v : Int) := i64_sum (by omega) (by omega)
  go_enter Tryd.func54, Tryd.ntmps54
  go_wp2_with (go_at_call 86; go_must (refine (HC.out _ (by omega) _).mono ?_); rintro e w1 ⟨A1, c1, rfl, hO1, hb1⟩)
  go_ret2
  exact ⟨A1, c1, rfl, hO1, hb1⟩
end Go.Proofs.YtmigjipfomfacaaDoor
namespace Go.Proofs.YtmigjipfomfacaaDoor
open Go.RowKit
set_option maxRecDepth 100000 in
theorem flag_any (b : Bool) (w : World) : Calls Tryd.prog 53 #[.bool b] w fun e w' => e = .returned (.int .u8 ((flg b).toNat : Int)) ∧ w = w' := by
  cases b <;> (go_enter Tryd.func53, Tryd.ntmps53; go_wp2; go_ret; exact ⟨rfl, rfl⟩)
theorem idx_two0 (T S : Int) (w : World) : (Instr.index 94 (.agg #[.int .i64 T, .int .i64 S]) (.int .i64 0)).run Tryd.prog w = .ok (.int .i64 T) w := run_index_arr w _ 3 2 _ 0 _ (by kernel_rfl) (by kernel_rfl) (by kernel_rfl) (by decide) rfl
theorem idx_two1 (T S : Int) (w : World) : (Instr.index 94 (.agg #[.int .i64 T, .int .i64 S]) (.int .i64 1)).run Tryd.prog w = .ok (.int .i64 S) w := run_index_arr w _ 3 2 _ 1 _ (by kernel_rfl) (by kernel_rfl) (by kernel_rfl) (by decide) rfl
theorem falling_at (v : Nat) (w : World) (hv : v < 9223372036854775808) : Calls Tryd.prog 54 #[.int .i64 v] w fun e w' => ∃ A c, e = .returned (.tuple #[.slice A 8 c, .int .i64 0]) ∧ Sl w' A 8 c (numK v) ∧ Below w.heap.size w w' := by
  refine (falling_any v w hv).mono fun e w' h => ?_
  obtain ⟨A, c, h1, h2, h3, h4⟩ := BytesPost2.at_ h (risB_len _) rfl
  exact ⟨A, c, h1, by unfold numK; rw [Int.toNat_natCast]; exact h2, h4⟩
set_option maxRecDepth 100000 in
set_option maxHeartbeats 2000000 in
theorem key_five (row qual : List UInt8) (A : Option Addr) (n c F : Nat) (B : Option Addr) (m d T S : Nat) (D : Option Addr) (v q : Nat) (w : World) (hrow : Sl w A n c row) (hqual : Sl w B m d qual) (hz : checkN n F m T S 5 v = 0) :
    Calls Tryd.prog 18 #[.agg #[.slice A n c, .int .i64 (F : Int), .slice B m d, .int .i64 (T : Int), .int .i64 (S : Int), .int .i64 5, .slice D v q]] w (BytesPost2 5 (keyE ⟨row, F, qual, T, S, 5, []⟩) 0 w) := by
  obtain ⟨z1, z2, z3, z4, z5, z6, -⟩ := checkN_ok hz
  have HN : Hid (n ≤ 256 ∧ m ≤ 256 ∧ T ≤ 1099511627776 ∧ S ≤ 17592186044431) := Lib.hid (by omega)
  have HR : Hid (∀ x, Below w.heap.size w x → Sl x A n c row) := Lib.hid fun x h => hrow.later h
  have HQ : Hid (∀ x, Below w.heap.size w x → Sl x B m d qual) := Lib.hid fun x h => hqual.later h
  have HLEN : Hid ((ordB row).length ≤ 514 ∧ (ordB qual).length ≤ 514) := Lib.hid (by
    have h1 := ordB_len row; have h2 := ordB_len qual; have h3 := hrow.len; have h4 := hqual.len; omega)
  have HZ := Lib.hid hz
  have HX0 := Lib.hid (Bx.new w #[.slice A n c, .int .i64 (F : Int), .slice B m d, .int .i64 (T : Int), .int .i64 (S : Int), .int .i64 5, .slice D v q] 37)
  clear hz z1 z2 z3 z4 z5 z6 hrow hqual
  go_enter Tryd.func18, Tryd.ntmps18
  go_wp2_with (go_at_call 51; go_must (refine (check_any _ _ _ _ _ _ _ _ _ _ _ _ _ _).mono ?_); rintro e x1 ⟨rfl, hb1⟩; rw [HZ.out]; have HX1 := Lib.hid (HX0.out.later hb1); clear hb1 HX0)
  have c0 := HX1.out.cell (i := 0) (v := .slice A n c) rfl; have c1 := HX1.out.cell (i := 1) (v := .int .i64 (F : Int)) rfl; have c5 := HX1.out.cell (i := 5) (v := .int .i64 5) rfl
  go_region_held3 (fun x => x.cell? ⟨w.heap.size, 0, none⟩ = some (.slice A n c) ∧ x.cell? ⟨w.heap.size, 1, none⟩ = some (.int .i64 (F : Int)) ∧ x.cell? ⟨w.heap.size, 5, none⟩ = some (.int .i64 5) ∧ Bx w #[.slice A n c, .int .i64 (F : Int), .slice B m d, .int .i64 (T : Int), .int .i64 (S : Int), .int .i64 5, .slice D v q] x) (first | assumption | exact ⟨c0, c1, c5, HX1.out.later (Below.refl _ _).drew⟩ | exact keepB3 ‹_ ∧ _ ∧ _ ∧ Bx _ _ _› hb2 | exact keepA3 ‹_ ∧ _ ∧ _ ∧ Bx _ _ _› | exact keepG3 ‹_ ∧ _ ∧ _ ∧ Bx _ _ _› (own_below hO2 ((Below.refl _ _).alloc (Nat.le_refl _) _)) hg3) (first
    | (go_at_call 52; refine (ordered_any row A n c _ (by have := HN.out; omega) (HR.out _ (‹_ ∧ _ ∧ _ ∧ Bx _ _ _›).2.2.2.up).rb).mono ?_; rintro e x2 ⟨A2, c2, rfl, hO2, hb2⟩; have hO2 := own_low hO2 (‹_ ∧ _ ∧ _ ∧ Bx _ _ _›).2.2.2.size)
    | (go_at_call 53; refine (flag_any _ _).mono ?_; rintro e w0 ⟨rfl, rfl⟩)
    | (refine step_append_cells _ (by rfl) _ _ (by rfl) Tryd.u8s' (w.heap.size + 1) (.slice A2 (ordB row).length c2) (ordB row).length (u8s (ordB row)) (by rfl) (own_below hO2 ((Below.refl _ _).alloc (Nat.le_refl _) _)) (x2.heap.size + 1) (some ⟨x2.heap.size, 0, none⟩) 2 2 (u8s [UInt8.ofNat F, flg true]) (by rfl) (by exact reads_lit x2 _ [UInt8.ofNat F, flg true] _ _ (by show [Value.int .u8 (IntKind.u8.wrap (F : Int)), _] = [u8v _, u8v _]; rw [u8v_mod, IntKind.wrap_u8]; rfl)) (u8s_one _) (by have := HLEN.out; unfold maxLen; omega) (by have := HLEN.out; omega) (‹_ ∧ _ ∧ _ ∧ Bx _ _ _›).2.2.2.size ?_; intro v3 x3 hown3 hg3 hat3 hold3 hcell3))
  all_goals
    obtain ⟨-, -, -, hx3⟩ := ‹_ ∧ _ ∧ _ ∧ Bx _ _ x3›
    have HX3 := Lib.hid hx3
    rw [← u8s_append] at hown3
    have HO3 := Lib.hid hown3
    clear hx3 hown3 hg3 hat3 hold3 hcell3 hO2 hb2 c0 c1 c5
    have q3_3 := HX3.out.cell (i := 3) (v := .int .i64 (T : Int)) rfl
    have q3_4 := HX3.out.cell (i := 4) (v := .int .i64 (S : Int)) rfl
    go_wp2_with fail
    clear HX1
    generalize IntKind.u8.wrap (F : Int) = wf
    obtain ⟨P, hP⟩ : ∃ P, P = ordB row ++ [UInt8.ofNat F, flg true] := ⟨_, rfl⟩
    have HP := Lib.hid hP
    have HOP : Hid (x3.ownsRow (w.heap.size + 1) 5 1 v3 P.length (u8s P)) := Lib.hid (by
      have := HO3.out
      rw [← hP] at this
      have e : P.length = (ordB row).length + 2 := by rw [hP]; simp only [List.length_append, List.length_cons, List.length_nil]
      rw [e]; exact this)
    have HPL : Hid (P.length ≤ 1031) := Lib.hid (by have := HLEN.out; rw [hP]; simp only [List.length_append, List.length_cons, List.length_nil]; omega)
    clear hP
    go_loopw [5, 47] (fun b i wr => ∃ (k : Nat) (Q : List UInt8), k ≤ 2 ∧ i = .int .i64 k ∧ Hid (Q = P ++ (if k = 0 then [] else if k = 1 then numK T else numK T ++ numK S)) ∧ Hid (wr.ownsRow (w.heap.size + 1) 5 1 b Q.length (u8s Q)) ∧ Hid (Q.length ≤ P.length + 16) ∧ Hid (Bx w #[.slice A n c, .int .i64 (F : Int), .slice B m d, .int .i64 (T : Int), .int .i64 (S : Int), .int .i64 5, .slice D v q] wr)) (fun _ i _ => 2 - (intOf i).toNat)
    case atStart => exact ⟨0, P, by decide, rfl, Lib.hid (by simp), HOP, Lib.hid (by omega), HX3⟩
    case round =>
      clear HOP HX3
      obtain ⟨k, Q, hk, hi, HQQ, HO, HL, HX⟩ := hrel
      obtain ⟨u, hu⟩ : ∃ u, u = u5 := ⟨_, rfl⟩
      rw [← hu] at HO ⊢
      clear hu
      have hk' : k = 0 ∨ k = 1 ∨ k = 2 := by omega
      clear hk
      rcases hk' with rfl | rfl | rfl
      case inr.inr =>
        replace hi : _ = Value.int .i64 2 := hi
        subst hi
        have p5 := HX.out.cell (i := 5) (v := .int .i64 5) rfl
        go_wp2_with (at_builtin; go_must (refine wpList_append_reads _ rfl (.tmp 62) (.tmp 66) rfl Tryd.u8s' (w.heap.size + 1) u Q.length (u8s Q) rfl (HO.out.alloc _) (wr.heap.size + 1) (some ⟨wr.heap.size, 0, none⟩) 1 1 (u8s [UInt8.ofNat 5]) rfl (by exact reads_lit wr _ [UInt8.ofNat 5] _ _ (by rfl)) (u8s_one _) (by have := HL.out; have := HPL.out; unfold maxLen; omega) (by have := HL.out; have := HPL.out; omega) (by have := HX.out.size; simp; omega) ?_); intro v1 x1 hown hg hat; have HX1 := Lib.hid ((HX.out.alloc _).grow (HO.out.alloc _) hg); rw [← u8s_append] at hown; have HO1 := Lib.hid hown; clear hown hg hat)
        go_ret2
        have hf : Q ++ [UInt8.ofNat 5] = keyE ⟨row, F, qual, T, S, 5, []⟩ := by
          rw [HQQ.out, HP.out]
          unfold keyE tailK qualK
          simp
        rw [← hf]
        exact bytes_post2 (own_low HO1.out (Nat.le_succ _)) HX1.out.up
      case inl =>
        replace hi : _ = Value.int .i64 0 := hi
        subst hi
        have ix := fun w => idx_two0 (T : Int) (S : Int) w
        go_wp2_with (first
          | (go_at_call 54; go_must (refine (falling_at T _ (by have := HN.out; omega)).mono ?_); rintro e x1 ⟨A1, c1, rfl, hs1, hb1⟩; have HX1 := Lib.hid (HX.out.later hb1); have HO1 := Lib.hid (own_below HO.out hb1); have HR1 := Lib.hid hs1.rb; clear hs1 hb1)
          | (at_builtin; go_must (refine wpList_append_reads _ rfl (.tmp 58) (.tmp 59) rfl Tryd.u8s' (w.heap.size + 1) u Q.length (u8s Q) rfl HO1.out x1.heap.size A1 8 c1 (u8s (numK T)) rfl HR1.out (u8s_one _) (by have := HL.out; have := HPL.out; unfold maxLen; omega) (by have := HL.out; have := HPL.out; omega) (by have := HX1.out.size; omega) ?_); intro v2 x2 hown hg hat; have HX2 := Lib.hid (HX1.out.grow HO1.out hg); rw [← u8s_append] at hown; have HO2 := Lib.hid hown; clear hown hg hat))
        have HO3 : Hid (x2.ownsRow (w.heap.size + 1) 5 1 v2 (Q ++ numK T).length (u8s (Q ++ numK T))) := Lib.hid (by
          have := HO2.out
          rw [show (Q ++ numK T).length = Q.length + 8 from by simp [numK_len]]; exact this)
        clear HO2
        go_roundw
        case measure => simp [intOf]
        case rel => exact ⟨1, Q ++ numK T, by decide, rfl, Lib.hid (by rw [HQQ.out]; simp), HO3, Lib.hid (by have := HQQ.out; rw [this]; simp [numK_len]), HX2⟩
      case inr.inl =>
        replace hi : _ = Value.int .i64 1 := hi
        subst hi
        have ix := fun w => idx_two1 (T : Int) (S : Int) w
        go_wp2_with (first
          | (go_at_call 54; go_must (refine (falling_at S _ (by have := HN.out; omega)).mono ?_); rintro e x1 ⟨A1, c1, rfl, hs1, hb1⟩; have HX1 := Lib.hid (HX.out.later hb1); have HO1 := Lib.hid (own_below HO.out hb1); have HR1 := Lib.hid hs1.rb; clear hs1 hb1)
          | (at_builtin; go_must (refine wpList_append_reads _ rfl (.tmp 58) (.tmp 59) rfl Tryd.u8s' (w.heap.size + 1) u Q.length (u8s Q) rfl HO1.out x1.heap.size A1 8 c1 (u8s (numK S)) rfl HR1.out (u8s_one _) (by have := HL.out; have := HPL.out; unfold maxLen; omega) (by have := HL.out; have := HPL.out; omega) (by have := HX1.out.size; omega) ?_); intro v2 x2 hown hg hat; have HX2 := Lib.hid (HX1.out.grow HO1.out hg); rw [← u8s_append] at hown; have HO2 := Lib.hid hown; clear hown hg hat))
        have HO3 : Hid (x2.ownsRow (w.heap.size + 1) 5 1 v2 (Q ++ numK S).length (u8s (Q ++ numK S))) := Lib.hid (by
          have := HO2.out
          rw [show (Q ++ numK S).length = Q.length + 8 from by simp [numK_len]]; exact this)
        clear HO2
        go_roundw
        case measure => simp [intOf]
        case rel => exact ⟨2, Q ++ numK S, by decide, rfl, Lib.hid (by rw [HQQ.out]; simp), HO3, Lib.hid (by have := HQQ.out; rw [this]; simp [numK_len]), HX2⟩
set_option maxRecDepth 100000 in
set_option maxHeartbeats 2000000 in
theorem key_more (row qual : List UInt8) (A : Option Addr) (n c F : Nat) (B : Option Addr) (m d T S K : Nat) (D : Option Addr) (v q : Nat) (w : World) (hrow : Sl w A n c row) (hqual : Sl w B m d qual) (hz : checkN n F m T S (K : Int) v = 0) (hk : K ≠ 5) :
    Calls Tryd.prog 18 #[.agg #[.slice A n c, .int .i64 (F : Int), .slice B m d, .int .i64 (T : Int), .int .i64 (S : Int), .int .i64 (K : Int), .slice D v q]] w (BytesPost2 5 (keyE ⟨row, F, qual, T, S, (K : Int), []⟩) 0 w) := by
  obtain ⟨z1, z2, z3, z4, z5, z6, -⟩ := checkN_ok hz
  have HN : Hid (n ≤ 256 ∧ m ≤ 256 ∧ T ≤ 1099511627776 ∧ S ≤ 17592186044431) := Lib.hid (by omega)
  have HR : Hid (∀ x, Below w.heap.size w x → Sl x A n c row) := Lib.hid fun x h => hrow.later h
  have HQ : Hid (∀ x, Below w.heap.size w x → Sl x B m d qual) := Lib.hid fun x h => hqual.later h
  have HLEN : Hid ((ordB row).length ≤ 514 ∧ (ordB qual).length ≤ 514) := Lib.hid (by
    have h1 := ordB_len row; have h2 := ordB_len qual; have h3 := hrow.len; have h4 := hqual.len; omega)
  have HZ := Lib.hid hz
  have HX0 := Lib.hid (Bx.new w #[.slice A n c, .int .i64 (F : Int), .slice B m d, .int .i64 (T : Int), .int .i64 (S : Int), .int .i64 (K : Int), .slice D v q] 37)
  have hk5 : ((K : Int) == 5) = false := by rw [beq_eq_false_iff_ne]; omega
  have hk5' : ((K : Int) != 5) = true := by rw [bne_iff_ne]; omega
  have HK := Lib.hid hk
  obtain ⟨b4, hb4⟩ : ∃ b4, b4 = ((K : Int) == 4) := ⟨_, rfl⟩
  have HB4 := Lib.hid hb4
  have hk4 : ((K : Int) == 4) = b4 := hb4.symm
  clear hk hb4
  clear hz z1 z2 z3 z4 z5 z6 hrow hqual
  have tok3 : True := trivial
  have tok4 : True := trivial
  go_enter Tryd.func18, Tryd.ntmps18
  go_wp2_with (go_at_call 51; go_must (refine (check_any _ _ _ _ _ _ _ _ _ _ _ _ _ _).mono ?_); rintro e x1 ⟨rfl, hb1⟩; rw [HZ.out]; have HX1 := Lib.hid (HX0.out.later hb1); clear hb1 HX0)
  have c0 := HX1.out.cell (i := 0) (v := .slice A n c) rfl; have c1 := HX1.out.cell (i := 1) (v := .int .i64 (F : Int)) rfl; have c5 := HX1.out.cell (i := 5) (v := .int .i64 (K : Int)) rfl
  go_region_held3 (fun x => x.cell? ⟨w.heap.size, 0, none⟩ = some (.slice A n c) ∧ x.cell? ⟨w.heap.size, 1, none⟩ = some (.int .i64 (F : Int)) ∧ x.cell? ⟨w.heap.size, 5, none⟩ = some (.int .i64 (K : Int)) ∧ Bx w #[.slice A n c, .int .i64 (F : Int), .slice B m d, .int .i64 (T : Int), .int .i64 (S : Int), .int .i64 (K : Int), .slice D v q] x) (first | assumption | exact ⟨c0, c1, c5, HX1.out.later (Below.refl _ _).drew⟩ | exact keepB3 ‹_ ∧ _ ∧ _ ∧ Bx _ _ _› hb2 | exact keepA3 ‹_ ∧ _ ∧ _ ∧ Bx _ _ _› | exact keepG3 ‹_ ∧ _ ∧ _ ∧ Bx _ _ _› (own_below hO2 ((Below.refl _ _).alloc (Nat.le_refl _) _)) hg3) (first
    | (go_at_call 52; refine (ordered_any row A n c _ (by have := HN.out; omega) (HR.out _ (‹_ ∧ _ ∧ _ ∧ Bx _ _ _›).2.2.2.up).rb).mono ?_; rintro e x2 ⟨A2, c2, rfl, hO2, hb2⟩; have hO2 := own_low hO2 (‹_ ∧ _ ∧ _ ∧ Bx _ _ _›).2.2.2.size)
    | (go_at_call 53; refine (flag_any _ _).mono ?_; rintro e w0 ⟨rfl, rfl⟩)
    | (refine step_append_cells _ (by rfl) _ _ (by rfl) Tryd.u8s' (w.heap.size + 1) (.slice A2 (ordB row).length c2) (ordB row).length (u8s (ordB row)) (by rfl) (own_below hO2 ((Below.refl _ _).alloc (Nat.le_refl _) _)) (x2.heap.size + 1) (some ⟨x2.heap.size, 0, none⟩) 2 2 (u8s [UInt8.ofNat F, flg false]) (by rfl) (by exact reads_lit x2 _ [UInt8.ofNat F, flg false] _ _ (by show [Value.int .u8 (IntKind.u8.wrap (F : Int)), _] = [u8v _, u8v _]; rw [u8v_mod, IntKind.wrap_u8]; rfl)) (u8s_one _) (by have := HLEN.out; unfold maxLen; omega) (by have := HLEN.out; omega) (‹_ ∧ _ ∧ _ ∧ Bx _ _ _›).2.2.2.size ?_; intro v3 x3 hown3 hg3 hat3 hold3 hcell3))
  all_goals
    obtain ⟨-, -, -, hx3⟩ := ‹_ ∧ _ ∧ _ ∧ Bx _ _ x3›
    have HX3 := Lib.hid hx3
    rw [← u8s_append] at hown3
    have HO3 := Lib.hid hown3
    clear hx3 hown3 hg3 hat3 hold3 hcell3 hO2 hb2 c0 c1 c5
    have q3_5 := HX3.out.cell (i := 5) (v := .int .i64 (K : Int)) rfl
    have q3_2 := HX3.out.cell (i := 2) (v := .slice B m d) rfl
    go_wp2_with (first
      | (go_at_call 53; go_must (refine (flag_any _ _).mono ?_); rintro e w0 ⟨rfl, rfl⟩)
      | (go_at_call 52; have _t := tok3; go_must (refine (ordered_any qual B m d _ (by have := HN.out; omega) (HQ.out _ HX3.out.up).rb).mono ?_); rintro e x4 ⟨A4, c4, rfl, hO4, hb4⟩; have HX4 := Lib.hid (HX3.out.later hb4); have HO4 := Lib.hid (own_below HO3.out hb4); have HR4 := Lib.hid (RB.own hO4); clear hO4 hb4 tok3)
      | (at_builtin; have _t := tok4; go_must (refine wpList_append_reads _ rfl (.tmp 30) (.tmp 33) rfl Tryd.u8s' (w.heap.size + 1) v3 ((ordB row).length + 2) (u8s (ordB row ++ [UInt8.ofNat F, flg false])) rfl HO4.out x4.heap.size A4 (ordB qual).length c4 (u8s (ordB qual)) rfl HR4.out (u8s_one _) (by have := HLEN.out; unfold maxLen; omega) (by have := HLEN.out; omega) (by have := HX4.out.size; omega) ?_); intro v5 x5 hown hg hat; clear tok4; have HX5 := Lib.hid (HX4.out.grow HO4.out hg); rw [← u8s_append] at hown; have HO5 := Lib.hid hown; clear hown hg hat; have q5_5 := HX5.out.cell (i := 5) (v := .int .i64 (K : Int)) rfl)
      | (at_builtin; go_must (refine wpList_append_reads _ rfl (.tmp 35) (.tmp 40) rfl Tryd.u8s' (w.heap.size + 1) v5 ((ordB row).length + 2 + (ordB qual).length) (u8s ((ordB row ++ [UInt8.ofNat F, flg false]) ++ ordB qual)) rfl (HO5.out.alloc _) (x5.heap.size + 1) (some ⟨x5.heap.size, 0, none⟩) 1 1 (u8s ([flg b4])) rfl (by exact reads_lit x5 _ ([flg b4]) _ _ (by rfl)) (u8s_one _) (by have := HLEN.out; unfold maxLen; omega) (by have := HLEN.out; omega) (by have := HX5.out.size; simp; omega) ?_); intro v6 x6 hown hg hat; have HX6 := Lib.hid ((HX5.out.alloc _).grow (HO5.out.alloc _) hg); rw [← u8s_append] at hown; have HO6 := Lib.hid hown; clear hown hg hat; have q6_5 := HX6.out.cell (i := 5) (v := .int .i64 (K : Int)) rfl; have q6_3 := HX6.out.cell (i := 3) (v := .int .i64 (T : Int)) rfl; have q6_4 := HX6.out.cell (i := 4) (v := .int .i64 (S : Int)) rfl))
    clear HX1
    generalize IntKind.u8.wrap (F : Int) = wf
    obtain ⟨P, hP⟩ : ∃ P, P = ((ordB row ++ [UInt8.ofNat F, flg false]) ++ ordB qual) ++ [flg b4] := ⟨_, rfl⟩
    have HP := Lib.hid hP
    have HOP : Hid (x6.ownsRow (w.heap.size + 1) 5 1 v6 P.length (u8s P)) := Lib.hid (by
      have := HO6.out
      rw [← hP] at this
      have e : P.length = (ordB row).length + 2 + (ordB qual).length + 1 := by rw [hP]; simp only [List.length_append, List.length_cons, List.length_nil]
      rw [e]; exact this)
    have HPL : Hid (P.length ≤ 1031) := Lib.hid (by have := HLEN.out; rw [hP]; simp only [List.length_append, List.length_cons, List.length_nil]; omega)
    clear hP
    go_loopw [5, 47] (fun b i wr => ∃ (k : Nat) (Q : List UInt8), k ≤ 2 ∧ i = .int .i64 k ∧ Hid (Q = P ++ (if k = 0 then [] else if k = 1 then numK T else numK T ++ numK S)) ∧ Hid (wr.ownsRow (w.heap.size + 1) 5 1 b Q.length (u8s Q)) ∧ Hid (Q.length ≤ P.length + 16) ∧ Hid (Bx w #[.slice A n c, .int .i64 (F : Int), .slice B m d, .int .i64 (T : Int), .int .i64 (S : Int), .int .i64 (K : Int), .slice D v q] wr)) (fun _ i _ => 2 - (intOf i).toNat)
    case atStart => exact ⟨0, P, by decide, rfl, Lib.hid (by simp), HOP, Lib.hid (by omega), HX6⟩
    case round =>
      clear HOP HX6
      obtain ⟨k, Q, hk, hi, HQQ, HO, HL, HX⟩ := hrel
      obtain ⟨u, hu⟩ : ∃ u, u = u5 := ⟨_, rfl⟩
      rw [← hu] at HO ⊢
      clear hu
      have hk' : k = 0 ∨ k = 1 ∨ k = 2 := by omega
      clear hk
      rcases hk' with rfl | rfl | rfl
      case inr.inr =>
        replace hi : _ = Value.int .i64 2 := hi
        subst hi
        have p5 := HX.out.cell (i := 5) (v := .int .i64 (K : Int)) rfl
        go_wp2_with (at_builtin; go_must (refine wpList_append_reads _ rfl (.tmp 62) (.tmp 66) rfl Tryd.u8s' (w.heap.size + 1) u Q.length (u8s Q) rfl (HO.out.alloc _) (wr.heap.size + 1) (some ⟨wr.heap.size, 0, none⟩) 1 1 (u8s [UInt8.ofNat K]) rfl (by exact reads_lit wr _ [UInt8.ofNat K] _ _ (by show [_] = [u8v _]; rw [u8v_mod])) (u8s_one _) (by have := HL.out; have := HPL.out; unfold maxLen; omega) (by have := HL.out; have := HPL.out; omega) (by have := HX.out.size; simp; omega) ?_); intro v1 x1 hown hg hat; have HX1 := Lib.hid ((HX.out.alloc _).grow (HO.out.alloc _) hg); rw [← u8s_append] at hown; have HO1 := Lib.hid hown; clear hown hg hat)
        go_ret2
        have hf : Q ++ [UInt8.ofNat K] = keyE ⟨row, F, qual, T, S, (K : Int), []⟩ := by
          rw [HQQ.out, HP.out]
          unfold keyE tailK qualK
          have hkk : ¬ ((K : Int) = 5) := by have := HK.out; omega
          have h5 : ((K : Int) == 5) = false := hk5
          have hB := HB4.out
          clear hk4
          subst hB
          rw [if_neg hkk]
          simp only [h5]
          simp
        rw [← hf]
        exact bytes_post2 (own_low HO1.out (Nat.le_succ _)) HX1.out.up
      case inl =>
        replace hi : _ = Value.int .i64 0 := hi
        subst hi
        have ix := fun w => idx_two0 (T : Int) (S : Int) w
        go_wp2_with (first
          | (go_at_call 54; go_must (refine (falling_at T _ (by have := HN.out; omega)).mono ?_); rintro e x1 ⟨A1, c1, rfl, hs1, hb1⟩; have HX1 := Lib.hid (HX.out.later hb1); have HO1 := Lib.hid (own_below HO.out hb1); have HR1 := Lib.hid hs1.rb; clear hs1 hb1)
          | (at_builtin; go_must (refine wpList_append_reads _ rfl (.tmp 58) (.tmp 59) rfl Tryd.u8s' (w.heap.size + 1) u Q.length (u8s Q) rfl HO1.out x1.heap.size A1 8 c1 (u8s (numK T)) rfl HR1.out (u8s_one _) (by have := HL.out; have := HPL.out; unfold maxLen; omega) (by have := HL.out; have := HPL.out; omega) (by have := HX1.out.size; omega) ?_); intro v2 x2 hown hg hat; have HX2 := Lib.hid (HX1.out.grow HO1.out hg); rw [← u8s_append] at hown; have HO2 := Lib.hid hown; clear hown hg hat))
        have HO3 : Hid (x2.ownsRow (w.heap.size + 1) 5 1 v2 (Q ++ numK T).length (u8s (Q ++ numK T))) := Lib.hid (by
          have := HO2.out
          rw [show (Q ++ numK T).length = Q.length + 8 from by simp [numK_len]]; exact this)
        clear HO2
        go_roundw
        case measure => simp [intOf]
        case rel => exact ⟨1, Q ++ numK T, by decide, rfl, Lib.hid (by rw [HQQ.out]; simp), HO3, Lib.hid (by have := HQQ.out; rw [this]; simp [numK_len]), HX2⟩
      case inr.inl =>
        replace hi : _ = Value.int .i64 1 := hi
        subst hi
        have ix := fun w => idx_two1 (T : Int) (S : Int) w
        go_wp2_with (first
          | (go_at_call 54; go_must (refine (falling_at S _ (by have := HN.out; omega)).mono ?_); rintro e x1 ⟨A1, c1, rfl, hs1, hb1⟩; have HX1 := Lib.hid (HX.out.later hb1); have HO1 := Lib.hid (own_below HO.out hb1); have HR1 := Lib.hid hs1.rb; clear hs1 hb1)
          | (at_builtin; go_must (refine wpList_append_reads _ rfl (.tmp 58) (.tmp 59) rfl Tryd.u8s' (w.heap.size + 1) u Q.length (u8s Q) rfl HO1.out x1.heap.size A1 8 c1 (u8s (numK S)) rfl HR1.out (u8s_one _) (by have := HL.out; have := HPL.out; unfold maxLen; omega) (by have := HL.out; have := HPL.out; omega) (by have := HX1.out.size; omega) ?_); intro v2 x2 hown hg hat; have HX2 := Lib.hid (HX1.out.grow HO1.out hg); rw [← u8s_append] at hown; have HO2 := Lib.hid hown; clear hown hg hat))
        have HO3 : Hid (x2.ownsRow (w.heap.size + 1) 5 1 v2 (Q ++ numK S).length (u8s (Q ++ numK S))) := Lib.hid (by
          have := HO2.out
          rw [show (Q ++ numK S).length = Q.length + 8 from by simp [numK_len]]; exact this)
        clear HO2
        go_roundw
        case measure => simp [intOf]
        case rel => exact ⟨2, Q ++ numK S, by decide, rfl, Lib.hid (by rw [HQQ.out]; simp), HO3, Lib.hid (by have := HQQ.out; rw [this]; simp [numK_len]), HX2⟩
set_option maxRecDepth 100000 in
set_option maxHeartbeats 1000000 in
theorem key_err (f t s k : Int) (A : Option Addr) (n c : Nat) (B : Option Addr) (m d : Nat) (D : Option Addr) (v q : Nat) (w : World) (hz : checkN n f m t s k v ≠ 0) :
    Calls Tryd.prog 18 #[.agg #[.slice A n c, .int .i64 f, .slice B m d, .int .i64 t, .int .i64 s, .int .i64 k, .slice D v q]] w (BytesPost2 5 [] (checkN n f m t s k v) w) := by
  obtain ⟨z, hzz⟩ : ∃ z, z = checkN n f m t s k v := ⟨_, rfl⟩
  rw [← hzz] at hz ⊢
  have HZ := Lib.hid hzz
  have hd : (z != 0) = true := by rw [bne_iff_ne]; exact hz
  have HB := Lib.hid (fun o => (Below.refl w.heap.size w).alloc (Nat.le_refl _) o)
  clear hz hzz
  go_enter Tryd.func18, Tryd.ntmps18
  go_wp2_with (go_at_call 51; go_must (refine (check_any _ _ _ _ _ _ _ _ _ _ _ _ _ _).mono ?_); rintro e x1 ⟨rfl, hb1⟩; rw [← HZ.out]; have HB1 := Lib.hid (below_up (HB.out _) hb1); clear hb1 HB)
  go_ret2
  exact bytes_none2 HB1.out
theorem key_any (e : Ent) (A : Option Addr) (n c : Nat) (B : Option Addr) (m d : Nat) (D : Option Addr) (v q : Nat) (w : World) (h : En w A n c B m d D v q e) :
    Calls Tryd.prog 18 #[entV A n c B m d D v q e] w (BytesPost2 5 (KeyE e).1 (KeyE e).2 w) := by
  obtain ⟨row, f, qual, t, s, k, val⟩ := e
  have hl1 : row.length = n := h.row.len
  have hl2 : qual.length = m := h.qual.len
  have hl3 : val.length = v := h.val.len
  have hc : checkE ⟨row, f, qual, t, s, k, val⟩ = checkN n f m t s k v := by unfold checkE; simp only [hl1, hl2, hl3]
  unfold KeyE
  rw [hc]
  by_cases hz : checkN n f m t s k v = 0
  · rw [if_pos hz]
    obtain ⟨z1, z2, z3, z4, z5, z6, -⟩ := checkN_ok hz
    obtain ⟨F, rfl⟩ : ∃ F : Nat, f = F := ⟨f.toNat, by omega⟩
    obtain ⟨T, rfl⟩ : ∃ T : Nat, t = T := ⟨t.toNat, by omega⟩
    obtain ⟨S, rfl⟩ : ∃ S : Nat, s = S := ⟨s.toNat, by omega⟩
    obtain ⟨K, rfl⟩ : ∃ K : Nat, k = K := ⟨k.toNat, by omega⟩
    by_cases hk : K = 5
    · subst hk
      exact key_five row qual A n c F B m d T S D v q w h.row h.qual hz
    · exact key_more row qual A n c F B m d T S K D v q w h.row h.qual hz hk
  · rw [if_neg hz]
    exact key_err f t s k A n c B m d D v q w hz
end Go.Proofs.YtmigjipfomfacaaDoor
namespace Go.Proofs.YtmigjipfomfacaaDoor
open Go.RowKit
theorem drop_of_get {l : List UInt8} {k : Nat} {c : UInt8} (h : l[k]? = some c) : l.drop k = c :: l.drop (k + 1) := by
  obtain ⟨h1, rfl⟩ := List.getElem?_eq_some_iff.1 h
  exact List.drop_eq_getElem_cons h1
set_option maxRecDepth 100000 in
set_option maxHeartbeats 2000000 in
theorem ro_any (l : List UInt8) (A : Option Addr) (n c : Nat) (a : Int) (w : World) (hs : Sl w A n c l) (hn : n ≤ 140737488355000) :
    Calls Tryd.prog 110 #[.slice A n c, .int .i64 a] w (BytesPost3 5 (readO l a).1 ((readO l a).2.1 : Nat) ((readO l a).2.2 : Nat) w) := by
  have hl := hs.len
  have HR : Hid (∀ w', Below w.heap.size w w' → RB w' w'.heap.size A n l) := Lib.hid fun w' h => hs.rb.later h
  by_cases ho : outB n a = true
  · have HO := Lib.hid ho
    have H : Hid (BytesPost3 5 (readO l a).1 ((readO l a).2.1 : Nat) ((readO l a).2.2 : Nat) w (.returned (.tuple #[.slice none 0 0, .int .i64 0, .int .i64 1])) w) := Lib.hid (by
      unfold outB at ho
      simp at ho
      unfold readO
      rw [if_pos (by omega)]
      exact bytes_none3 (Below.refl _ _))
    clear hs ho hl
    go_enter Tryd.func110, Tryd.ntmps110
    go_wp2_with (go_at_call 93; go_must (refine (outside_any A n c a _).mono ?_); rintro e w0 ⟨rfl, rfl⟩; rw [HO.out])
    go_ret3
    exact H.out
  have ho : outB n a = false := by simpa using ho
  have HO := Lib.hid ho
  have ha : 0 ≤ a ∧ a ≤ n := by unfold outB at ho; simp at ho; omega
  obtain ⟨K, rfl⟩ : ∃ K : Nat, a = (K : Int) := ⟨a.toNat, by omega⟩
  have HL := Lib.hid hl
  obtain ⟨R, hR⟩ : ∃ R, R = readO l (K : Int) := ⟨_, rfl⟩
  rw [← hR]
  have HS : Hid (glO [] K (rdO (l.drop K)) = R) := Lib.hid (by rw [hR, readO_in (by omega)])
  have hK : K ≤ n := by omega
  clear hs ho hl ha hR
  go_enter Tryd.func110, Tryd.ntmps110
  go_wp2_with (go_at_call 93; go_must (refine (outside_any A n c (K : Int) _).mono ?_); rintro e w0 ⟨rfl, rfl⟩; rw [HO.out])
  go_loopw [1, 7] (fun i v wr => ∃ (k : Nat) (P : List UInt8), k ≤ n ∧ i = .int .i64 k ∧ Hid (P.length ≤ k) ∧ Hid (glO P k (rdO (l.drop k)) = R) ∧ wr.ownsRow w.heap.size 5 1 v P.length (u8s P) ∧ Hid (Below w.heap.size w wr)) (fun i _ _ => n - (intOf i).toNat)
  case atStart => exact ⟨K, [], hK, rfl, Lib.hid (by simp), HS, own_nil _ _ _ _, Lib.hid (Below.refl _ _)⟩
  case round =>
    clear HS
    obtain ⟨k, P, hk, rfl, HPL, HG, hown, HB⟩ := hrel
    obtain ⟨v, hv⟩ : ∃ v, v = u7 := ⟨_, rfl⟩
    rw [← hv] at hown ⊢
    clear hv
    have HT : Hid (rdO [] = ([], 0, 10) ∧ ∀ x, rdO [x] = ([], 0, 10)) := Lib.hid ⟨rfl, fun _ => rfl⟩
    have HE : Hid (∀ e, e ≠ 0 → R = ([], 0, e) → BytesPost3 5 R.1 (R.2.1 : Nat) (R.2.2 : Nat) w (.returned (.tuple #[.slice none 0 0, .int .i64 0, .int .i64 e])) wr) := Lib.hid fun e _ h => by
      rw [h]; exact bytes_none3 HB.out
    by_cases hlt : k < n
    case neg =>
      have hd : decide ((k : Int) < (n : Int)) = false := decide_eq_false (by omega)
      have H := Lib.hid (HE.out 10 (by decide) (by rw [← HG.out, List.drop_eq_nil_of_le (by have := HL.out; omega), HT.out.1]; rfl))
      clear HE
      go_wp2
      go_ret3
      exact H.out
    have hd : decide ((k : Int) < (n : Int)) = true := decide_eq_true (by omega)
    obtain ⟨b, o, x, rfl, _, hx, hcx⟩ := (HR.out _ HB.out).at_ hlt
    have HX := Lib.hid (drop_of_get hx)
    clear hx
    by_cases hx0 : x.toNat = 0
    case neg =>
      have hd2 : ((x.toNat : Int) != 0) = true := by rw [bne_iff_ne]; omega
      have HN : Hid (glO (P ++ [x]) (k + 1) (rdO (l.drop (k + 1))) = R) := Lib.hid (by rw [← HG.out, HX.out, rdO_ne hx0, glO_add])
      have HPL2 : Hid ((P ++ [x]).length ≤ k + 1) := Lib.hid (by rw [List.length_append]; have := HPL.out; simp; omega)
      clear HE hx0
      go_wp2_with (at_builtin; go_must (refine wpList_append_reads _ rfl (.tmp 24) (.tmp 26) rfl Tryd.u8s' w.heap.size v P.length (u8s P) rfl (hown.alloc _) (wr.heap.size + 1) (some ⟨wr.heap.size, 0, none⟩) 1 1 (u8s [x]) rfl (by exact reads_lit wr _ [x] _ _ rfl) (u8s_one _) (by have := HPL.out; unfold maxLen; omega) (by have := HPL.out; omega) (by have := HB.out.size; simp; omega) ?_); intro v1 w1 hown1 hg1 hat1; have HB1 := Lib.hid (below_app (HB.out.alloc HB.out.size (.cells #[.int .u8 (x.toNat : Int)] 5)) (hown.alloc _) hg1 (by have := HB.out.size; simp; omega) (Nat.le_refl _)); rw [← u8s_append] at hown1; have HO1 := Lib.hid hown1; clear hown1 hg1 hat1)
      have hO1 : w1.ownsRow w.heap.size 5 1 v1 (P ++ [x]).length (u8s (P ++ [x])) := by
        have := HO1.out
        rw [show (P ++ [x]).length = P.length + 1 from by simp]; exact this
      clear HO1
      go_roundw
      case rel => exact ⟨k + 1, P ++ [x], by omega, by go_num, HPL2, HN, hO1, HB1⟩
      case measure => simp [intOf]; omega
    have hd2 : ((x.toNat : Int) != 0) = false := by rw [bne_eq_false_iff_eq]; omega
    have hq1 : IntKind.i64.wrap ((k : Int) + 1) = (k : Int) + 1 := i64_sum (by omega) (by omega)
    by_cases hlt2 : k + 1 < n
    case neg =>
      have hd3 : ((k : Int) + 1 == (n : Int)) = true := by rw [beq_iff_eq]; omega
      have H := Lib.hid (HE.out 10 (by decide) (by rw [← HG.out, HX.out, List.drop_eq_nil_of_le (by have := HL.out; omega), HT.out.2]; rfl))
      clear HE hx0
      go_wp2
      go_ret3
      exact H.out
    have hd3 : ((k : Int) + 1 == (n : Int)) = false := by rw [beq_eq_false_iff_ne]; omega
    have hq2 : (0 : Int) ≤ (k : Int) + 1 := by omega
    have hq3 : (k : Int) + 1 < (n : Int) := by omega
    have hq4 : ((k : Int) + 1).toNat = k + 1 := by omega
    have hq5 : IntKind.i64.wrap ((k : Int) + 1 + 1) = (k : Int) + 2 := by rw [i64_sum (by omega) (by omega)]; omega
    obtain ⟨b', o', y, e', _, hy, hcy⟩ := (HR.out _ HB.out).at_ hlt2
    injection e' with e'
    injection e' with e1 e2
    subst e1; subst e2
    have HY := Lib.hid (drop_of_get hy)
    clear hy
    by_cases hy1 : y.toNat = 1
    · have hd4 : ((y.toNat : Int) == 1) = true := by rw [beq_iff_eq]; omega
      have H : Hid (BytesPost3 5 R.1 (R.2.1 : Nat) (R.2.2 : Nat) w (.returned (.tuple #[v, .int .i64 ((k : Int) + 2), .int .i64 0])) wr) := Lib.hid (by
        rw [← HG.out, HX.out, HY.out, rdO_one hx0 hy1]
        unfold glO
        rw [if_pos rfl]
        show BytesPost3 5 (P ++ []) ((k + 2 : Nat) : Int) 0 w _ wr
        rw [List.append_nil]
        exact bytes_post3 hown HB.out)
      clear HE hx0
      go_wp2
      go_ret3
      exact H.out
    have hd4 : ((y.toNat : Int) == 1) = false := by rw [beq_eq_false_iff_ne]; omega
    by_cases hy2 : y.toNat = 255
    · have hd5 : ((y.toNat : Int) == 255) = true := by rw [beq_iff_eq]; omega
      have HN : Hid (glO (P ++ [0]) (k + 2) (rdO (l.drop (k + 2))) = R) := Lib.hid (by rw [← HG.out, HX.out, HY.out, rdO_zero hx0 hy2, glO_add])
      have HPL2 : Hid ((P ++ [(0 : UInt8)]).length ≤ k + 2) := Lib.hid (by rw [List.length_append]; have := HPL.out; simp; omega)
      clear HE hx0
      go_wp2_with (at_builtin; go_must (refine wpList_append_reads _ rfl (.tmp 43) (.tmp 44) rfl Tryd.u8s' w.heap.size v P.length (u8s P) rfl (hown.alloc _) (wr.heap.size + 1) (some ⟨wr.heap.size, 0, none⟩) 1 1 (u8s [0]) rfl (by exact reads_lit wr _ [0] _ _ rfl) (u8s_one _) (by have := HPL.out; unfold maxLen; omega) (by have := HPL.out; omega) (by have := HB.out.size; simp; omega) ?_); intro v1 w1 hown1 hg1 hat1; have HB1 := Lib.hid (below_app (HB.out.alloc HB.out.size (.cells #[.int .u8 0] 5)) (hown.alloc _) hg1 (by have := HB.out.size; simp; omega) (Nat.le_refl _)); rw [← u8s_append] at hown1; have HO1 := Lib.hid hown1; clear hown1 hg1 hat1)
      have hO1 : w1.ownsRow w.heap.size 5 1 v1 (P ++ [(0 : UInt8)]).length (u8s (P ++ [(0 : UInt8)])) := by
        have := HO1.out
        rw [show (P ++ [(0 : UInt8)]).length = P.length + 1 from by simp]; exact this
      clear HO1
      go_roundw
      case rel => exact ⟨k + 2, P ++ [0], by omega, by go_num, HPL2, HN, hO1, HB1⟩
      case measure => simp [intOf]; omega
    · have hd5 : ((y.toNat : Int) == 255) = false := by rw [beq_eq_false_iff_ne]; omega
      have H := Lib.hid (HE.out 11 (by decide) (by rw [← HG.out, HX.out, HY.out, rdO_form hx0 hy1 hy2]; rfl))
      clear HE hx0
      go_wp2
      go_ret3
      exact H.out
def RRPost (r : Nat × Nat × Nat) (w : World) (e : Ending) (w' : World) : Prop := e = .returned (.tuple #[.int .i64 r.1, .int .i64 r.2.1, .int .i64 r.2.2]) ∧ w = w'
set_option maxRecDepth 100000 in
set_option maxHeartbeats 2000000 in
theorem rr_any (l : List UInt8) (A : Option Addr) (n c : Nat) (a : Int) (w : World) (hs : Sl w A n c l) (_hn : n ≤ 140737488355000) :
    Calls Tryd.prog 114 #[.slice A n c, .int .i64 a] w (RRPost (readR l a) w) := by
  have hl := hs.len
  by_cases ho : outB n a = true
  · have HO := Lib.hid ho
    have H : Hid (readR l a = (0, 0, 1)) := Lib.hid (by
      unfold outB at ho
      simp at ho
      unfold readR
      rw [if_pos (by omega)])
    clear hs ho hl
    go_enter Tryd.func114, Tryd.ntmps114
    go_wp2_with (go_at_call 93; go_must (refine (outside_any A n c a _).mono ?_); rintro e w0 ⟨rfl, rfl⟩; rw [HO.out])
    go_ret3
    rw [H.out]
    exact ⟨rfl, rfl⟩
  have ho : outB n a = false := by simpa using ho
  have HO := Lib.hid ho
  have ha : 0 ≤ a ∧ a ≤ n := by unfold outB at ho; simp at ho; omega
  obtain ⟨k, rfl⟩ : ∃ k : Nat, a = (k : Int) := ⟨a.toNat, by omega⟩
  have hk : k ≤ n := by omega
  have hbase : readR l (k : Int) = if n < k + 8 then (0, 0, 10) else if 127 < (l[k]?.getD 0).toNat then (0, 0, 13) else (big (cutS l k 8), k + 8, 0) := by
    unfold readR; rw [if_neg (by omega), Int.toNat_natCast, hl]
  have hcap := hs.cap
  have hlim := hs.lim
  by_cases h8 : n < k + 8
  · have H : Hid (readR l (k : Int) = (0, 0, 10)) := Lib.hid (by rw [hbase, if_pos h8])
    have hd : decide ((n : Int) - (k : Int) < 8) = true := decide_eq_true (by omega)
    clear hs ho hl ha hbase
    go_enter Tryd.func114, Tryd.ntmps114
    go_wp2_with (go_at_call 93; go_must (refine (outside_any A n c (k : Int) _).mono ?_); rintro e w0 ⟨rfl, rfl⟩; rw [HO.out])
    go_ret3
    rw [H.out]
    exact ⟨rfl, rfl⟩
  rw [if_neg h8] at hbase
  have hd : decide ((n : Int) - (k : Int) < 8) = false := decide_eq_false (by omega)
  have hkn : k < n := by omega
  obtain ⟨b, o, x, rfl, _, hx, hcx⟩ := hs.rb.at_ hkn
  rw [hx] at hbase
  by_cases hbig : 127 < x.toNat
  · have H : Hid (readR l (k : Int) = (0, 0, 13)) := Lib.hid (by rw [hbase, Option.getD_some, if_pos hbig])
    have hd2 : decide ((127 : Int) < (x.toNat : Int)) = true := decide_eq_true (by omega)
    have hd3 : decide (127 < x.toNat) = true := decide_eq_true hbig
    clear hs ho hl ha hbase hx
    go_enter Tryd.func114, Tryd.ntmps114
    go_wp2_with (go_at_call 93; go_must (refine (outside_any _ n c (k : Int) _).mono ?_); rintro e w0 ⟨rfl, rfl⟩; rw [HO.out])
    go_ret3
    rw [H.out]
    exact ⟨rfl, rfl⟩
  have HBS : Hid (readR l (k : Int) = (big (cutS l k 8), k + 8, 0)) := Lib.hid (by rw [hbase, Option.getD_some, if_neg hbig])
  have hd2 : decide ((127 : Int) < (x.toNat : Int)) = false := decide_eq_false (by omega)
  have hd3 : decide (127 < x.toNat) = false := decide_eq_false hbig
  obtain ⟨L, hL⟩ : ∃ L, L = cutS l k 8 := ⟨_, rfl⟩
  rw [← hL] at HBS
  have HLL : Hid (L.length = 8) := Lib.hid (by rw [hL]; unfold cutS; rw [List.length_take, List.length_drop]; omega)
  have H0 : Hid ((L[0]?.getD 0).toNat ≤ 127) := Lib.hid (by
    have e : L[0]? = l[k]? := by rw [hL]; unfold cutS; rw [List.getElem?_take_of_lt (by omega), List.getElem?_drop, Nat.add_zero]
    rw [e, hx, Option.getD_some]; omega)
  have HC : Hid (∀ (j : Nat) (y : UInt8), L[j]? = some y → w.cell? ⟨b, o + k + j, none⟩ = some (.int .u8 (y.toNat : Int))) := Lib.hid fun j y hy => by
    have hj : j < 8 := by have := (List.getElem?_eq_some_iff.1 hy).1; rw [HLL.out] at this; exact this
    have e : L[j]? = l[k + j]? := by rw [hL]; unfold cutS; rw [List.getElem?_take_of_lt hj, List.getElem?_drop]
    rw [e] at hy
    rw [Nat.add_assoc]
    exact hs.rb.cell hy
  have k0 : IntKind.i64.wrap ((k : Int) + 8) = (k : Int) + 8 := i64_sum (by omega) (by omega)
  have k1 : (0 : Int) ≤ (k : Int) + 8 := by omega
  have k2 : (k : Int) + 8 ≤ (c : Int) := by omega
  have k3 : ((k : Int) + 8).toNat = k + 8 := by omega
  have k4 : k ≤ k + 8 := by omega
  have k5 : k + 8 - k = 8 := by omega
  have k6 : c ≠ k := by omega
  clear hs ho hl ha hbase hx hL hbig
  go_enter Tryd.func114, Tryd.ntmps114
  go_wp2_with (go_at_call 93; go_must (refine (outside_any _ n c (k : Int) _).mono ?_); rintro e w0 ⟨rfl, rfl⟩; rw [HO.out])
  go_loop [7, 32] (fun s i => ∃ j : Nat, j ≤ 8 ∧ i = .int .i64 j ∧ ∃ N : Nat, Hid (N = big (L.take j)) ∧ N < 9223372036854775808 ∧ s = .int .i64 N) (fun _ i => 8 - (intOf i).toNat)
  case atStart => exact ⟨0, by omega, rfl, 0, Lib.hid (by simp [big]), by omega, rfl⟩
  case round =>
    obtain ⟨j, hj, rfl, N, HN, hN, rfl⟩ := hrel
    by_cases hlt : j < 8
    case neg =>
      have hdj : decide ((j : Int) < 8) = false := decide_eq_false (by omega)
      have HE : Hid (readR l (k : Int) = (N, k + 8, 0)) := Lib.hid (by rw [HBS.out, HN.out, take_all (by rw [HLL.out]; omega)])
      go_wp2
      go_ret3
      rw [HE.out]
      exact ⟨rfl, rfl⟩
    have hdj : decide ((j : Int) < 8) = true := decide_eq_true (by omega)
    obtain ⟨y, hy⟩ : ∃ y, L[j]? = some y := ⟨_, List.getElem?_eq_getElem (by rw [HLL.out]; exact hlt)⟩
    have hcy := HC.out j y hy
    have HB7 := Lib.hid (big_take H0.out (j := j) (by omega))
    have hNb : N < 36028797018963968 := by have := HB7.out; rw [← HN.out] at this; exact this
    have e1 := or_step N y hNb
    have e2 : wrap64 ((N : Int) * 256) = (N : Int) * 256 := wrap64_id (by omega) (by omega)
    have e3 : IntKind.i64.wrap ((N : Int) * 256) = (N : Int) * 256 := i64_sum (by omega) (by omega)
    have HN2 : Hid (N * 256 + y.toNat = big (L.take (j + 1))) := Lib.hid (by rw [take_snoc hy, big_snoc, HN.out])
    have hy8 := y.toNat_lt
    clear hy
    go_wp2
    go_round
    case rel => exact ⟨j + 1, by omega, by go_num, N * 256 + y.toNat, HN2, by omega, rfl⟩
    case measure => simp [intOf]; omega
set_option maxRecDepth 100000 in
set_option maxHeartbeats 2000000 in
theorem rfl_any (l : List UInt8) (A : Option Addr) (n c : Nat) (a : Int) (w : World) (hs : Sl w A n c l) (hn : n ≤ 140737488355000) :
    Calls Tryd.prog 111 #[.slice A n c, .int .i64 a] w (RRPost (readFl l a) w) := by
  have hend := readR_end l a
  have HC := Lib.hid (rr_any l A n c a w hs hn)
  obtain ⟨v, hv⟩ : ∃ v, v = (readR l a).1 := ⟨_, rfl⟩
  obtain ⟨p, hp⟩ : ∃ p, p = (readR l a).2.1 := ⟨_, rfl⟩
  obtain ⟨k, hk⟩ : ∃ k, k = (readR l a).2.2 := ⟨_, rfl⟩
  have hbase : readFl l a = if k = 0 then (9223372036854775807 - v, p, 0) else (0, 0, k) := by unfold readFl; rw [hv, hp, hk]
  have HU : Hid (RRPost (readR l a) w = RRPost (v, p, k) w) := Lib.hid (by rw [hv, hp, hk])
  rw [← hv, ← hk] at hend
  clear hv hp hk hs
  by_cases hk0 : k = 0
  · have H : Hid (readFl l a = (9223372036854775807 - v, p, 0)) := Lib.hid (by rw [hbase, if_pos hk0])
    obtain ⟨_, _, _, _, hv⟩ := hend hk0
    subst hk0
    have q1 : IntKind.i64.wrap (9223372036854775807 - (v : Int)) = ((9223372036854775807 - v : Nat) : Int) := by rw [i64_sum (by omega) (by omega)]; omega
    have q2 : (9223372036854775807 - (v : Int)) = ((9223372036854775807 - v : Nat) : Int) := by omega
    have HQ := Lib.hid q2
    clear hbase hend q2
    go_enter Tryd.func111, Tryd.ntmps111
    go_wp2_with (go_at_call 114; go_must (refine HC.out.mono ?_); rw [HU.out]; rintro e w1 ⟨rfl, rfl⟩)
    go_ret3
    rw [H.out]
    refine ⟨?_, rfl⟩
    first
      | rfl
      | (rw [← HQ.out]; rfl)
  · have H : Hid (readFl l a = (0, 0, k)) := Lib.hid (by rw [hbase, if_neg hk0])
    have hd : ((k : Int) != 0) = true := by rw [bne_iff_ne]; omega
    clear hbase hend
    go_enter Tryd.func111, Tryd.ntmps111
    go_wp2_with (go_at_call 114; go_must (refine HC.out.mono ?_); rw [HU.out]; rintro e w1 ⟨rfl, rfl⟩)
    go_ret3
    rw [H.out]
    exact ⟨rfl, rfl⟩
end Go.Proofs.YtmigjipfomfacaaDoor
namespace Go.Proofs.YtmigjipfomfacaaDoor
open Go.RowKit
def EntPost (mk : Value → Value) (e : Ent) (w : World) (r : Ending) (w' : World) : Prop :=
  ∃ A c B d D q, r = .returned (mk (entV A e.row.length c B e.qual.length d D e.val.length q e)) ∧ RowsB 5 w.heap.size w' [(A, c, e.row), (B, d, e.qual), (D, q, e.val)] ∧ Below w.heap.size w w'
def NoPost (w : World) (r : Ending) (w' : World) : Prop :=
  (∃ A1 n1 c1 f A2 n2 c2 t s k, r = .returned (.tuple #[.agg #[.slice A1 n1 c1, .int .i64 f, .slice A2 n2 c2, .int .i64 t, .int .i64 s, .int .i64 k, .slice none 0 0], .bool false])) ∧ Below w.heap.size w w'
section
variable {T : TypeId} {base base' : Nat} {w w' : World} {rs : RowL} {mk : Value → Value}
theorem rows_low (h : RowsB T base w rs) (hb : base' ≤ base) : RowsB T base' w rs := ⟨fun i r hr => (h.1 i r hr).rebase hb, h.2⟩
theorem rows_nil (h : RowsB T base w rs) : RowsB T base w (rs ++ [(none, 0, [])]) := h.snoc (own_nil _ _ _ _) fun _ _ _ a b _ e => by cases e
theorem ent_none (hb : Below w.heap.size w w') : EntPost mk noEnt w (.returned (mk (entV none 0 0 none 0 0 none 0 0 noEnt))) w' :=
  ⟨none, 0, none, 0, none, 0, rfl, rows_nil (rows_nil (rows_nil RowsB.nil)), hb⟩
theorem ent_post {row qual : List UInt8} {f t s k : Int} {A1 A2 : Option Addr} {c1 c2 : Nat} (h : RowsB 5 w.heap.size w' [(A1, c1, row), (A2, c2, qual)]) (hb : Below w.heap.size w w') :
    EntPost mk ⟨row, f, qual, t, s, k, []⟩ w (.returned (mk (.agg #[.slice A1 row.length c1, .int .i64 f, .slice A2 qual.length c2, .int .i64 t, .int .i64 s, .int .i64 k, .slice none 0 0]))) w' :=
  ⟨A1, c1, A2, c2, none, 0, rfl, rows_nil h, hb⟩
theorem ent_post_n {row : List UInt8} {f t s k : Int} {A1 : Option Addr} {c1 : Nat} (h : RowsB 5 w.heap.size w' [(A1, c1, row)]) (hb : Below w.heap.size w w') :
    EntPost mk ⟨row, f, [], t, s, k, []⟩ w (.returned (mk (.agg #[.slice A1 row.length c1, .int .i64 f, .slice none 0 0, .int .i64 t, .int .i64 s, .int .i64 k, .slice none 0 0]))) w' :=
  ⟨A1, c1, none, 0, none, 0, rfl, rows_nil (rows_nil h), hb⟩
end
set_option maxRecDepth 100000 in
set_option maxHeartbeats 2000000 in
theorem pa_N_f1a (b : List UInt8) (A : Option Addr) (n c : Nat) (w : World) (rw0 : List UInt8) (p1 er : Nat) (hs : Sl w A n c b) (hn : n ≤ 140737488355000) (h0 : readO b 0 = (rw0, p1, er)) (he : er ≠ 0) :
    Calls Tryd.prog 96 #[.slice A n c] w (NoPost w) := by
  have HS : Hid (∀ x, Below w.heap.size w x → Sl x A n c b) := Lib.hid fun x h => hs.later h
  have HX0 := Lib.hid (Bt.of (T := 5) (Bxs.two w 37 #[.slice none 0 0, .int .i64 0, .slice none 0 0, .int .i64 0, .int .i64 0, .int .i64 0, .slice none 0 0] #[.slice none 0 0, .int .i64 0, .slice none 0 0, .int .i64 0, .int .i64 0, .int .i64 0, .slice none 0 0]))
  have H0 := Lib.hid h0
  have hd : ((er : Int) != 0) = true := by rw [bne_iff_ne]; omega
  have tO1 : True := trivial
  clear hs h0 he
  go_enter Tryd.func96, Tryd.ntmps96
  go_wp2_with (first
    | (go_at_call 110; have _t := tO1; go_must (refine (ro_any b A n c 0 _ (HS.out _ HX0.out.box.up) hn).mono ?_); rw [H0.out]; rintro e x1 hp; obtain ⟨A1, c1, rfl, _, hO1, hb1⟩ := hp.at_ (n := rw0.length) rfl rfl rfl; have HX1 := Lib.hid (HX0.out.fresh hb1 hO1); clear hb1 hp hO1 tO1; have z0 := HX1.out.box.c0 (i := 0) (v := .slice none 0 0) rfl rfl; have y0 := HX1.out.box.c1 (i := 0) (v := .slice none 0 0) rfl rfl; have z1 := HX1.out.box.c0 (i := 1) (v := .int .i64 0) rfl rfl; have y1 := HX1.out.box.c1 (i := 1) (v := .int .i64 0) rfl rfl; have z2 := HX1.out.box.c0 (i := 2) (v := .slice none 0 0) rfl rfl; have y2 := HX1.out.box.c1 (i := 2) (v := .slice none 0 0) rfl rfl; have z3 := HX1.out.box.c0 (i := 3) (v := .int .i64 0) rfl rfl; have y3 := HX1.out.box.c1 (i := 3) (v := .int .i64 0) rfl rfl; have z4 := HX1.out.box.c0 (i := 4) (v := .int .i64 0) rfl rfl; have y4 := HX1.out.box.c1 (i := 4) (v := .int .i64 0) rfl rfl; have z5 := HX1.out.box.c0 (i := 5) (v := .int .i64 0) rfl rfl; have y5 := HX1.out.box.c1 (i := 5) (v := .int .i64 0) rfl rfl; have z6 := HX1.out.box.c0 (i := 6) (v := .slice none 0 0) rfl rfl; have y6 := HX1.out.box.c1 (i := 6) (v := .slice none 0 0) rfl rfl; have fz := HX1.out.box.f0 rfl; have fy := HX1.out.box.f1 rfl))
  (try simp only [Exit.inBlock, Exit.then])
  have HR := Lib.hid ((HX1.out.fill7 rfl (.slice none 0 0) (.int .i64 0) (.slice none 0 0) (.int .i64 0) (.int .i64 0) (.int .i64 0) (.slice none 0 0)))
  refine bodyPost_ret (results_box1 rfl _ _ w.heap.size _ rfl (HR.out.box.cells0 rfl) (by kernel_rfl) (by kernel_rfl)) rfl ?_
  exact ⟨⟨_, _, _, _, _, _, _, _, _, _, rfl⟩, HR.out.box.up⟩
set_option maxRecDepth 100000 in
set_option maxHeartbeats 2000000 in
theorem pa_N_f1b (b : List UInt8) (A : Option Addr) (n c : Nat) (w : World) (row : List UInt8) (p1 : Nat) (hs : Sl w A n c b) (hn : n ≤ 140737488355000) (h0 : readO b 0 = (row, p1, 0)) (hp1 : p1 ≤ n) (hsh : n < p1 + 2) :
    Calls Tryd.prog 96 #[.slice A n c] w (NoPost w) := by
  have HS : Hid (∀ x, Below w.heap.size w x → Sl x A n c b) := Lib.hid fun x h => hs.later h
  have HX0 := Lib.hid (Bt.of (T := 5) (Bxs.two w 37 #[.slice none 0 0, .int .i64 0, .slice none 0 0, .int .i64 0, .int .i64 0, .int .i64 0, .slice none 0 0] #[.slice none 0 0, .int .i64 0, .slice none 0 0, .int .i64 0, .int .i64 0, .int .i64 0, .slice none 0 0]))
  have H0 := Lib.hid h0
  have tO1 : True := trivial
  clear hs h0
  go_enter Tryd.func96, Tryd.ntmps96
  go_wp2_with (first
    | (go_at_call 110; have _t := tO1; go_must (refine (ro_any b A n c 0 _ (HS.out _ HX0.out.box.up) hn).mono ?_); rw [H0.out]; rintro e x1 hp; obtain ⟨A1, c1, rfl, _, hO1, hb1⟩ := hp.at_ (n := row.length) rfl rfl rfl; have HX1 := Lib.hid (HX0.out.fresh hb1 hO1); clear hb1 hp hO1 tO1; have z0 := HX1.out.box.c0 (i := 0) (v := .slice none 0 0) rfl rfl; have y0 := HX1.out.box.c1 (i := 0) (v := .slice none 0 0) rfl rfl; have z1 := HX1.out.box.c0 (i := 1) (v := .int .i64 0) rfl rfl; have y1 := HX1.out.box.c1 (i := 1) (v := .int .i64 0) rfl rfl; have z2 := HX1.out.box.c0 (i := 2) (v := .slice none 0 0) rfl rfl; have y2 := HX1.out.box.c1 (i := 2) (v := .slice none 0 0) rfl rfl; have z3 := HX1.out.box.c0 (i := 3) (v := .int .i64 0) rfl rfl; have y3 := HX1.out.box.c1 (i := 3) (v := .int .i64 0) rfl rfl; have z4 := HX1.out.box.c0 (i := 4) (v := .int .i64 0) rfl rfl; have y4 := HX1.out.box.c1 (i := 4) (v := .int .i64 0) rfl rfl; have z5 := HX1.out.box.c0 (i := 5) (v := .int .i64 0) rfl rfl; have y5 := HX1.out.box.c1 (i := 5) (v := .int .i64 0) rfl rfl; have z6 := HX1.out.box.c0 (i := 6) (v := .slice none 0 0) rfl rfl; have y6 := HX1.out.box.c1 (i := 6) (v := .slice none 0 0) rfl rfl; have fz := HX1.out.box.f0 rfl; have fy := HX1.out.box.f1 rfl))
  (try simp only [Exit.inBlock, Exit.then])
  have HR := Lib.hid ((HX1.out.fill7 rfl (.slice none 0 0) (.int .i64 0) (.slice none 0 0) (.int .i64 0) (.int .i64 0) (.int .i64 0) (.slice none 0 0)))
  refine bodyPost_ret (results_box1 rfl _ _ w.heap.size _ rfl (HR.out.box.cells0 rfl) (by kernel_rfl) (by kernel_rfl)) rfl ?_
  exact ⟨⟨_, _, _, _, _, _, _, _, _, _, rfl⟩, HR.out.box.up⟩
set_option maxRecDepth 100000 in
set_option maxHeartbeats 2000000 in
theorem pa_P_f2a (b : List UInt8) (A : Option Addr) (n c : Nat) (w : World) (row : List UInt8) (p1 : Nat) (f g : UInt8) (ql0 : List UInt8) (p2 er : Nat) (hs : Sl w A n c b) (hn : n ≤ 140737488355000) (h0 : readO b 0 = (row, p1, 0)) (hlen : p1 + 2 ≤ n) (hf : b[p1]? = some f) (hg : b[p1 + 1]? = some g) (hg0 : g.toNat ≠ 0) (h2 : readO b ((p1 + 2 : Nat) : Int) = (ql0, p2, er)) (he : er ≠ 0) :
    Calls Tryd.prog 96 #[.slice A n c] w (NoPost w) := by
  have HS : Hid (∀ x, Below w.heap.size w x → Sl x A n c b) := Lib.hid fun x h => hs.later h
  have HX0 := Lib.hid (Bt.of (T := 5) (Bxs.two w 37 #[.slice none 0 0, .int .i64 0, .slice none 0 0, .int .i64 0, .int .i64 0, .int .i64 0, .slice none 0 0] #[.slice none 0 0, .int .i64 0, .slice none 0 0, .int .i64 0, .int .i64 0, .int .i64 0, .slice none 0 0]))
  have H0 := Lib.hid h0
  obtain ⟨bb, oo, _, rfl, hbb, _, _⟩ := hs.rb.at_ (k := p1) (by omega)
  have HC : Hid (∀ (j : Nat) (u : UInt8) x, b[j]? = some u → Below w.heap.size w x → x.cell? ⟨bb, oo + j, none⟩ = some (.int .u8 (u.toNat : Int))) := Lib.hid fun j u x hu hx => (hs.rb.later hx).cell hu
  have hbb0 : ¬ bb = w.heap.size := by omega
  have hbb1 : ¬ bb = w.heap.size + 1 := by omega
  have HF := Lib.hid hf
  have HG := Lib.hid hg
  have hgd : ((g.toNat : Int) != 0) = true := by rw [bne_iff_ne]; omega
  have H2 := Lib.hid h2
  have hd : ((er : Int) != 0) = true := by rw [bne_iff_ne]; omega
  have q1 : (p1 : Int) < (n : Int) := by omega
  have q2 : (p1 : Int) + 1 < (n : Int) := by omega
  have q3 : decide ((n : Int) < (p1 : Int) + 2) = false := decide_eq_false (by omega)
  have tO1 : True := trivial
  have tO2 : True := trivial
  clear hs h0 hf hg hg0 h2 he
  go_enter Tryd.func96, Tryd.ntmps96
  go_wp2_with (go_at_call 110; have _t := tO1; go_must (refine (ro_any b (some ⟨bb, oo, none⟩) n c 0 _ (HS.out _ HX0.out.box.up) hn).mono ?_); rw [H0.out]; rintro e x1 hp; obtain ⟨A1, c1, rfl, _, hO1, hb1⟩ := hp.at_ (n := row.length) rfl rfl rfl; have HX1 := Lib.hid (HX0.out.fresh hb1 hO1); clear hb1 hp hO1 tO1; have z0 := HX1.out.box.c0 (i := 0) (v := .slice none 0 0) rfl rfl; have y0 := HX1.out.box.c1 (i := 0) (v := .slice none 0 0) rfl rfl; have z1 := HX1.out.box.c0 (i := 1) (v := .int .i64 0) rfl rfl; have y1 := HX1.out.box.c1 (i := 1) (v := .int .i64 0) rfl rfl; have z2 := HX1.out.box.c0 (i := 2) (v := .slice none 0 0) rfl rfl; have y2 := HX1.out.box.c1 (i := 2) (v := .slice none 0 0) rfl rfl; have z3 := HX1.out.box.c0 (i := 3) (v := .int .i64 0) rfl rfl; have y3 := HX1.out.box.c1 (i := 3) (v := .int .i64 0) rfl rfl; have z4 := HX1.out.box.c0 (i := 4) (v := .int .i64 0) rfl rfl; have y4 := HX1.out.box.c1 (i := 4) (v := .int .i64 0) rfl rfl; have z5 := HX1.out.box.c0 (i := 5) (v := .int .i64 0) rfl rfl; have y5 := HX1.out.box.c1 (i := 5) (v := .int .i64 0) rfl rfl; have z6 := HX1.out.box.c0 (i := 6) (v := .slice none 0 0) rfl rfl; have y6 := HX1.out.box.c1 (i := 6) (v := .slice none 0 0) rfl rfl; have fz := HX1.out.box.f0 rfl; have fy := HX1.out.box.f1 rfl; have g1 := HC.out p1 f _ HF.out HX1.out.box.up; have g2 := HC.out (p1 + 1) g _ HG.out HX1.out.box.up)
  go_region
  rw [show wrap64 ((f.toNat : Nat) : Int) = (f.toNat : Int) from wrap64_id (by omega) (by have := f.toNat_lt; omega)]
  go_wp2_with (first
    | (go_at_call 110; have _t := tO2; go_must (refine (ro_any b (some ⟨bb, oo, none⟩) n c _ _ (HS.out _ ((HX1.out.s1_0 (.slice A1 row.length c1)).s1_1 (.int .i64 (f.toNat : Int))).drew.box.up) hn).mono ?_); rw [show ((p1 : Int) + 2) = ((p1 + 2 : Nat) : Int) from by omega, H2.out]; rintro e x2 hp; obtain ⟨A2, c2, rfl, _, hO2, hb2⟩ := hp.at_ (n := ql0.length) rfl rfl rfl; have HX2 := Lib.hid (((HX1.out.s1_0 (.slice A1 row.length c1)).s1_1 (.int .i64 (f.toNat : Int))).drew.fresh hb2 hO2); clear hb2 hp hO2 tO2 g1 g2; clear z0 y0 z1 y1 z2 y2 z3 y3 z4 y4 z5 y5 z6 y6 fz fy; have z0 := HX2.out.box.c0 (i := 0) (v := .slice none 0 0) rfl rfl; have y0 := HX2.out.box.c1 (i := 0) (v := .slice A1 row.length c1) rfl rfl; have z1 := HX2.out.box.c0 (i := 1) (v := .int .i64 0) rfl rfl; have y1 := HX2.out.box.c1 (i := 1) (v := .int .i64 (f.toNat : Int)) rfl rfl; have z2 := HX2.out.box.c0 (i := 2) (v := .slice none 0 0) rfl rfl; have y2 := HX2.out.box.c1 (i := 2) (v := .slice none 0 0) rfl rfl; have z3 := HX2.out.box.c0 (i := 3) (v := .int .i64 0) rfl rfl; have y3 := HX2.out.box.c1 (i := 3) (v := .int .i64 0) rfl rfl; have z4 := HX2.out.box.c0 (i := 4) (v := .int .i64 0) rfl rfl; have y4 := HX2.out.box.c1 (i := 4) (v := .int .i64 0) rfl rfl; have z5 := HX2.out.box.c0 (i := 5) (v := .int .i64 0) rfl rfl; have y5 := HX2.out.box.c1 (i := 5) (v := .int .i64 0) rfl rfl; have z6 := HX2.out.box.c0 (i := 6) (v := .slice none 0 0) rfl rfl; have y6 := HX2.out.box.c1 (i := 6) (v := .slice none 0 0) rfl rfl; have fz := HX2.out.box.f0 rfl; have fy := HX2.out.box.f1 rfl))
  (try simp only [Exit.inBlock, Exit.then])
  have HR := Lib.hid ((HX2.out.fill7 rfl (.slice A1 row.length c1) (.int .i64 (f.toNat : Int)) (.slice none 0 0) (.int .i64 0) (.int .i64 0) (.int .i64 0) (.slice none 0 0)))
  refine bodyPost_ret (results_box1 rfl _ _ w.heap.size _ rfl (HR.out.box.cells0 rfl) (by kernel_rfl) (by kernel_rfl)) rfl ?_
  exact ⟨⟨_, _, _, _, _, _, _, _, _, _, rfl⟩, HR.out.box.up⟩
set_option maxRecDepth 100000 in
set_option maxHeartbeats 2000000 in
theorem pa_P_f2b (b : List UInt8) (A : Option Addr) (n c : Nat) (w : World) (row : List UInt8) (p1 : Nat) (f g : UInt8) (qual : List UInt8) (p2 : Nat) (hs : Sl w A n c b) (hn : n ≤ 140737488355000) (h0 : readO b 0 = (row, p1, 0)) (hlen : p1 + 2 ≤ n) (hf : b[p1]? = some f) (hg : b[p1 + 1]? = some g) (hg0 : g.toNat ≠ 0) (h2 : readO b ((p1 + 2 : Nat) : Int) = (qual, p2, 0)) (hsh : n ≤ p2) :
    Calls Tryd.prog 96 #[.slice A n c] w (NoPost w) := by
  have HS : Hid (∀ x, Below w.heap.size w x → Sl x A n c b) := Lib.hid fun x h => hs.later h
  have HX0 := Lib.hid (Bt.of (T := 5) (Bxs.two w 37 #[.slice none 0 0, .int .i64 0, .slice none 0 0, .int .i64 0, .int .i64 0, .int .i64 0, .slice none 0 0] #[.slice none 0 0, .int .i64 0, .slice none 0 0, .int .i64 0, .int .i64 0, .int .i64 0, .slice none 0 0]))
  have H0 := Lib.hid h0
  obtain ⟨bb, oo, _, rfl, hbb, _, _⟩ := hs.rb.at_ (k := p1) (by omega)
  have HC : Hid (∀ (j : Nat) (u : UInt8) x, b[j]? = some u → Below w.heap.size w x → x.cell? ⟨bb, oo + j, none⟩ = some (.int .u8 (u.toNat : Int))) := Lib.hid fun j u x hu hx => (hs.rb.later hx).cell hu
  have hbb0 : ¬ bb = w.heap.size := by omega
  have hbb1 : ¬ bb = w.heap.size + 1 := by omega
  have HF := Lib.hid hf
  have HG := Lib.hid hg
  have hgd : ((g.toNat : Int) != 0) = true := by rw [bne_iff_ne]; omega
  have H2 := Lib.hid h2
  have q1 : (p1 : Int) < (n : Int) := by omega
  have q2 : (p1 : Int) + 1 < (n : Int) := by omega
  have q3 : decide ((n : Int) < (p1 : Int) + 2) = false := decide_eq_false (by omega)
  have tO1 : True := trivial
  have tO2 : True := trivial
  clear hs h0 hf hg hg0 h2
  go_enter Tryd.func96, Tryd.ntmps96
  go_wp2_with (go_at_call 110; have _t := tO1; go_must (refine (ro_any b (some ⟨bb, oo, none⟩) n c 0 _ (HS.out _ HX0.out.box.up) hn).mono ?_); rw [H0.out]; rintro e x1 hp; obtain ⟨A1, c1, rfl, _, hO1, hb1⟩ := hp.at_ (n := row.length) rfl rfl rfl; have HX1 := Lib.hid (HX0.out.fresh hb1 hO1); clear hb1 hp hO1 tO1; have z0 := HX1.out.box.c0 (i := 0) (v := .slice none 0 0) rfl rfl; have y0 := HX1.out.box.c1 (i := 0) (v := .slice none 0 0) rfl rfl; have z1 := HX1.out.box.c0 (i := 1) (v := .int .i64 0) rfl rfl; have y1 := HX1.out.box.c1 (i := 1) (v := .int .i64 0) rfl rfl; have z2 := HX1.out.box.c0 (i := 2) (v := .slice none 0 0) rfl rfl; have y2 := HX1.out.box.c1 (i := 2) (v := .slice none 0 0) rfl rfl; have z3 := HX1.out.box.c0 (i := 3) (v := .int .i64 0) rfl rfl; have y3 := HX1.out.box.c1 (i := 3) (v := .int .i64 0) rfl rfl; have z4 := HX1.out.box.c0 (i := 4) (v := .int .i64 0) rfl rfl; have y4 := HX1.out.box.c1 (i := 4) (v := .int .i64 0) rfl rfl; have z5 := HX1.out.box.c0 (i := 5) (v := .int .i64 0) rfl rfl; have y5 := HX1.out.box.c1 (i := 5) (v := .int .i64 0) rfl rfl; have z6 := HX1.out.box.c0 (i := 6) (v := .slice none 0 0) rfl rfl; have y6 := HX1.out.box.c1 (i := 6) (v := .slice none 0 0) rfl rfl; have fz := HX1.out.box.f0 rfl; have fy := HX1.out.box.f1 rfl; have g1 := HC.out p1 f _ HF.out HX1.out.box.up; have g2 := HC.out (p1 + 1) g _ HG.out HX1.out.box.up)
  go_region
  rw [show wrap64 ((f.toNat : Nat) : Int) = (f.toNat : Int) from wrap64_id (by omega) (by have := f.toNat_lt; omega)]
  go_wp2_with (first
    | (go_at_call 110; have _t := tO2; go_must (refine (ro_any b (some ⟨bb, oo, none⟩) n c _ _ (HS.out _ ((HX1.out.s1_0 (.slice A1 row.length c1)).s1_1 (.int .i64 (f.toNat : Int))).drew.box.up) hn).mono ?_); rw [show ((p1 : Int) + 2) = ((p1 + 2 : Nat) : Int) from by omega, H2.out]; rintro e x2 hp; obtain ⟨A2, c2, rfl, _, hO2, hb2⟩ := hp.at_ (n := qual.length) rfl rfl rfl; have HX2 := Lib.hid (((HX1.out.s1_0 (.slice A1 row.length c1)).s1_1 (.int .i64 (f.toNat : Int))).drew.fresh hb2 hO2); clear hb2 hp hO2 tO2 g1 g2; clear z0 y0 z1 y1 z2 y2 z3 y3 z4 y4 z5 y5 z6 y6 fz fy; have z0 := HX2.out.box.c0 (i := 0) (v := .slice none 0 0) rfl rfl; have y0 := HX2.out.box.c1 (i := 0) (v := .slice A1 row.length c1) rfl rfl; have z1 := HX2.out.box.c0 (i := 1) (v := .int .i64 0) rfl rfl; have y1 := HX2.out.box.c1 (i := 1) (v := .int .i64 (f.toNat : Int)) rfl rfl; have z2 := HX2.out.box.c0 (i := 2) (v := .slice none 0 0) rfl rfl; have y2 := HX2.out.box.c1 (i := 2) (v := .slice none 0 0) rfl rfl; have z3 := HX2.out.box.c0 (i := 3) (v := .int .i64 0) rfl rfl; have y3 := HX2.out.box.c1 (i := 3) (v := .int .i64 0) rfl rfl; have z4 := HX2.out.box.c0 (i := 4) (v := .int .i64 0) rfl rfl; have y4 := HX2.out.box.c1 (i := 4) (v := .int .i64 0) rfl rfl; have z5 := HX2.out.box.c0 (i := 5) (v := .int .i64 0) rfl rfl; have y5 := HX2.out.box.c1 (i := 5) (v := .int .i64 0) rfl rfl; have z6 := HX2.out.box.c0 (i := 6) (v := .slice none 0 0) rfl rfl; have y6 := HX2.out.box.c1 (i := 6) (v := .slice none 0 0) rfl rfl; have fz := HX2.out.box.f0 rfl; have fy := HX2.out.box.f1 rfl))
  (try simp only [Exit.inBlock, Exit.then])
  have HR := Lib.hid ((HX2.out.fill7 rfl (.slice A1 row.length c1) (.int .i64 (f.toNat : Int)) (.slice none 0 0) (.int .i64 0) (.int .i64 0) (.int .i64 0) (.slice none 0 0)))
  refine bodyPost_ret (results_box1 rfl _ _ w.heap.size _ rfl (HR.out.box.cells0 rfl) (by kernel_rfl) (by kernel_rfl)) rfl ?_
  exact ⟨⟨_, _, _, _, _, _, _, _, _, _, rfl⟩, HR.out.box.up⟩
set_option maxRecDepth 100000 in
set_option maxHeartbeats 2000000 in
theorem pa_P_f3 (b : List UInt8) (A : Option Addr) (n c : Nat) (w : World) (row : List UInt8) (p1 : Nat) (f g : UInt8) (qual : List UInt8) (p2 : Nat) (t p3 er : Nat) (hs : Sl w A n c b) (hn : n ≤ 140737488355000) (h0 : readO b 0 = (row, p1, 0)) (hlen : p1 + 2 ≤ n) (hf : b[p1]? = some f) (hg : b[p1 + 1]? = some g) (hg0 : g.toNat ≠ 0) (h2 : readO b ((p1 + 2 : Nat) : Int) = (qual, p2, 0)) (hlen2 : p2 < n) (h3 : readFl b (((p2 + 1) : Nat) : Int) = (t, p3, er)) (he : er ≠ 0) :
    Calls Tryd.prog 96 #[.slice A n c] w (NoPost w) := by
  have HS : Hid (∀ x, Below w.heap.size w x → Sl x A n c b) := Lib.hid fun x h => hs.later h
  have HX0 := Lib.hid (Bt.of (T := 5) (Bxs.two w 37 #[.slice none 0 0, .int .i64 0, .slice none 0 0, .int .i64 0, .int .i64 0, .int .i64 0, .slice none 0 0] #[.slice none 0 0, .int .i64 0, .slice none 0 0, .int .i64 0, .int .i64 0, .int .i64 0, .slice none 0 0]))
  have H0 := Lib.hid h0
  obtain ⟨bb, oo, _, rfl, hbb, _, _⟩ := hs.rb.at_ (k := p1) (by omega)
  have HC : Hid (∀ (j : Nat) (u : UInt8) x, b[j]? = some u → Below w.heap.size w x → x.cell? ⟨bb, oo + j, none⟩ = some (.int .u8 (u.toNat : Int))) := Lib.hid fun j u x hu hx => (hs.rb.later hx).cell hu
  have hbb0 : ¬ bb = w.heap.size := by omega
  have hbb1 : ¬ bb = w.heap.size + 1 := by omega
  have HF := Lib.hid hf
  have HG := Lib.hid hg
  have hgd : ((g.toNat : Int) != 0) = true := by rw [bne_iff_ne]; omega
  have H2 := Lib.hid h2
  have H3 := Lib.hid h3
  have hd : ((er : Int) != 0) = true := by rw [bne_iff_ne]; omega
  have q1 : (p1 : Int) < (n : Int) := by omega
  have q2 : (p1 : Int) + 1 < (n : Int) := by omega
  have q3 : decide ((n : Int) < (p1 : Int) + 2) = false := decide_eq_false (by omega)
  have q4 : (p2 : Int) < (n : Int) := by omega
  have tO1 : True := trivial
  have tO2 : True := trivial
  have tF1 : True := trivial
  clear hs h0 hf hg hg0 h2 h3 he
  go_enter Tryd.func96, Tryd.ntmps96
  go_wp2_with (go_at_call 110; have _t := tO1; go_must (refine (ro_any b (some ⟨bb, oo, none⟩) n c 0 _ (HS.out _ HX0.out.box.up) hn).mono ?_); rw [H0.out]; rintro e x1 hp; obtain ⟨A1, c1, rfl, _, hO1, hb1⟩ := hp.at_ (n := row.length) rfl rfl rfl; have HX1 := Lib.hid (HX0.out.fresh hb1 hO1); clear hb1 hp hO1 tO1; have z0 := HX1.out.box.c0 (i := 0) (v := .slice none 0 0) rfl rfl; have y0 := HX1.out.box.c1 (i := 0) (v := .slice none 0 0) rfl rfl; have z1 := HX1.out.box.c0 (i := 1) (v := .int .i64 0) rfl rfl; have y1 := HX1.out.box.c1 (i := 1) (v := .int .i64 0) rfl rfl; have z2 := HX1.out.box.c0 (i := 2) (v := .slice none 0 0) rfl rfl; have y2 := HX1.out.box.c1 (i := 2) (v := .slice none 0 0) rfl rfl; have z3 := HX1.out.box.c0 (i := 3) (v := .int .i64 0) rfl rfl; have y3 := HX1.out.box.c1 (i := 3) (v := .int .i64 0) rfl rfl; have z4 := HX1.out.box.c0 (i := 4) (v := .int .i64 0) rfl rfl; have y4 := HX1.out.box.c1 (i := 4) (v := .int .i64 0) rfl rfl; have z5 := HX1.out.box.c0 (i := 5) (v := .int .i64 0) rfl rfl; have y5 := HX1.out.box.c1 (i := 5) (v := .int .i64 0) rfl rfl; have z6 := HX1.out.box.c0 (i := 6) (v := .slice none 0 0) rfl rfl; have y6 := HX1.out.box.c1 (i := 6) (v := .slice none 0 0) rfl rfl; have fz := HX1.out.box.f0 rfl; have fy := HX1.out.box.f1 rfl; have g1 := HC.out p1 f _ HF.out HX1.out.box.up; have g2 := HC.out (p1 + 1) g _ HG.out HX1.out.box.up)
  go_region
  rw [show wrap64 ((f.toNat : Nat) : Int) = (f.toNat : Int) from wrap64_id (by omega) (by have := f.toNat_lt; omega)]
  go_wp2_with (first
    | (go_at_call 110; have _t := tO2; go_must (refine (ro_any b (some ⟨bb, oo, none⟩) n c _ _ (HS.out _ ((HX1.out.s1_0 (.slice A1 row.length c1)).s1_1 (.int .i64 (f.toNat : Int))).drew.box.up) hn).mono ?_); rw [show ((p1 : Int) + 2) = ((p1 + 2 : Nat) : Int) from by omega, H2.out]; rintro e x2 hp; obtain ⟨A2, c2, rfl, _, hO2, hb2⟩ := hp.at_ (n := qual.length) rfl rfl rfl; have HX2 := Lib.hid (((HX1.out.s1_0 (.slice A1 row.length c1)).s1_1 (.int .i64 (f.toNat : Int))).drew.fresh hb2 hO2); clear hb2 hp hO2 tO2 g1 g2; clear z0 y0 z1 y1 z2 y2 z3 y3 z4 y4 z5 y5 z6 y6 fz fy; have z0 := HX2.out.box.c0 (i := 0) (v := .slice none 0 0) rfl rfl; have y0 := HX2.out.box.c1 (i := 0) (v := .slice A1 row.length c1) rfl rfl; have z1 := HX2.out.box.c0 (i := 1) (v := .int .i64 0) rfl rfl; have y1 := HX2.out.box.c1 (i := 1) (v := .int .i64 (f.toNat : Int)) rfl rfl; have z2 := HX2.out.box.c0 (i := 2) (v := .slice none 0 0) rfl rfl; have y2 := HX2.out.box.c1 (i := 2) (v := .slice none 0 0) rfl rfl; have z3 := HX2.out.box.c0 (i := 3) (v := .int .i64 0) rfl rfl; have y3 := HX2.out.box.c1 (i := 3) (v := .int .i64 0) rfl rfl; have z4 := HX2.out.box.c0 (i := 4) (v := .int .i64 0) rfl rfl; have y4 := HX2.out.box.c1 (i := 4) (v := .int .i64 0) rfl rfl; have z5 := HX2.out.box.c0 (i := 5) (v := .int .i64 0) rfl rfl; have y5 := HX2.out.box.c1 (i := 5) (v := .int .i64 0) rfl rfl; have z6 := HX2.out.box.c0 (i := 6) (v := .slice none 0 0) rfl rfl; have y6 := HX2.out.box.c1 (i := 6) (v := .slice none 0 0) rfl rfl; have fz := HX2.out.box.f0 rfl; have fy := HX2.out.box.f1 rfl)
    | (go_at_call 111; have _t := tF1; go_must (refine (rfl_any b (some ⟨bb, oo, none⟩) n c _ _ (HS.out _ (HX2.out.s1_2 (.slice A2 qual.length c2)).box.up) hn).mono ?_); rw [show ((p2 : Int) + 1) = ((p2 + 1 : Nat) : Int) from by omega, H3.out]; rintro e x3 ⟨rfl, rfl⟩; clear tF1))
  (try simp only [Exit.inBlock, Exit.then])
  have HR := Lib.hid ((((HX2.out.s1_2 (.slice A2 qual.length c2)).s1_3 (.int .i64 (t : Int))).fill7 rfl (.slice A1 row.length c1) (.int .i64 (f.toNat : Int)) (.slice A2 qual.length c2) (.int .i64 (t : Int)) (.int .i64 0) (.int .i64 0) (.slice none 0 0)))
  refine bodyPost_ret (results_box1 rfl _ _ w.heap.size _ rfl (HR.out.box.cells0 rfl) (by kernel_rfl) (by kernel_rfl)) rfl ?_
  exact ⟨⟨_, _, _, _, _, _, _, _, _, _, rfl⟩, HR.out.box.up⟩
set_option maxRecDepth 100000 in
set_option maxHeartbeats 2000000 in
theorem pa_P_f4a (b : List UInt8) (A : Option Addr) (n c : Nat) (w : World) (row : List UInt8) (p1 : Nat) (f g : UInt8) (qual : List UInt8) (p2 : Nat) (t p3 : Nat) (s p4 er : Nat) (hs : Sl w A n c b) (hn : n ≤ 140737488355000) (h0 : readO b 0 = (row, p1, 0)) (hlen : p1 + 2 ≤ n) (hf : b[p1]? = some f) (hg : b[p1 + 1]? = some g) (hg0 : g.toNat ≠ 0) (h2 : readO b ((p1 + 2 : Nat) : Int) = (qual, p2, 0)) (hlen2 : p2 < n) (h3 : readFl b (((p2 + 1) : Nat) : Int) = (t, p3, 0)) (h4 : readFl b (p3 : Int) = (s, p4, er)) (he : er ≠ 0) :
    Calls Tryd.prog 96 #[.slice A n c] w (NoPost w) := by
  have HS : Hid (∀ x, Below w.heap.size w x → Sl x A n c b) := Lib.hid fun x h => hs.later h
  have HX0 := Lib.hid (Bt.of (T := 5) (Bxs.two w 37 #[.slice none 0 0, .int .i64 0, .slice none 0 0, .int .i64 0, .int .i64 0, .int .i64 0, .slice none 0 0] #[.slice none 0 0, .int .i64 0, .slice none 0 0, .int .i64 0, .int .i64 0, .int .i64 0, .slice none 0 0]))
  have H0 := Lib.hid h0
  obtain ⟨bb, oo, _, rfl, hbb, _, _⟩ := hs.rb.at_ (k := p1) (by omega)
  have HC : Hid (∀ (j : Nat) (u : UInt8) x, b[j]? = some u → Below w.heap.size w x → x.cell? ⟨bb, oo + j, none⟩ = some (.int .u8 (u.toNat : Int))) := Lib.hid fun j u x hu hx => (hs.rb.later hx).cell hu
  have hbb0 : ¬ bb = w.heap.size := by omega
  have hbb1 : ¬ bb = w.heap.size + 1 := by omega
  have HF := Lib.hid hf
  have HG := Lib.hid hg
  have hgd : ((g.toNat : Int) != 0) = true := by rw [bne_iff_ne]; omega
  have H2 := Lib.hid h2
  have H3 := Lib.hid h3
  have H4 := Lib.hid h4
  have hd : ((er : Int) != 0) = true := by rw [bne_iff_ne]; omega
  have q1 : (p1 : Int) < (n : Int) := by omega
  have q2 : (p1 : Int) + 1 < (n : Int) := by omega
  have q3 : decide ((n : Int) < (p1 : Int) + 2) = false := decide_eq_false (by omega)
  have q4 : (p2 : Int) < (n : Int) := by omega
  have tO1 : True := trivial
  have tO2 : True := trivial
  have tF1 : True := trivial
  clear hs h0 hf hg hg0 h2 h3 h4 he
  go_enter Tryd.func96, Tryd.ntmps96
  go_wp2_with (go_at_call 110; have _t := tO1; go_must (refine (ro_any b (some ⟨bb, oo, none⟩) n c 0 _ (HS.out _ HX0.out.box.up) hn).mono ?_); rw [H0.out]; rintro e x1 hp; obtain ⟨A1, c1, rfl, _, hO1, hb1⟩ := hp.at_ (n := row.length) rfl rfl rfl; have HX1 := Lib.hid (HX0.out.fresh hb1 hO1); clear hb1 hp hO1 tO1; have z0 := HX1.out.box.c0 (i := 0) (v := .slice none 0 0) rfl rfl; have y0 := HX1.out.box.c1 (i := 0) (v := .slice none 0 0) rfl rfl; have z1 := HX1.out.box.c0 (i := 1) (v := .int .i64 0) rfl rfl; have y1 := HX1.out.box.c1 (i := 1) (v := .int .i64 0) rfl rfl; have z2 := HX1.out.box.c0 (i := 2) (v := .slice none 0 0) rfl rfl; have y2 := HX1.out.box.c1 (i := 2) (v := .slice none 0 0) rfl rfl; have z3 := HX1.out.box.c0 (i := 3) (v := .int .i64 0) rfl rfl; have y3 := HX1.out.box.c1 (i := 3) (v := .int .i64 0) rfl rfl; have z4 := HX1.out.box.c0 (i := 4) (v := .int .i64 0) rfl rfl; have y4 := HX1.out.box.c1 (i := 4) (v := .int .i64 0) rfl rfl; have z5 := HX1.out.box.c0 (i := 5) (v := .int .i64 0) rfl rfl; have y5 := HX1.out.box.c1 (i := 5) (v := .int .i64 0) rfl rfl; have z6 := HX1.out.box.c0 (i := 6) (v := .slice none 0 0) rfl rfl; have y6 := HX1.out.box.c1 (i := 6) (v := .slice none 0 0) rfl rfl; have fz := HX1.out.box.f0 rfl; have fy := HX1.out.box.f1 rfl; have g1 := HC.out p1 f _ HF.out HX1.out.box.up; have g2 := HC.out (p1 + 1) g _ HG.out HX1.out.box.up)
  go_region
  rw [show wrap64 ((f.toNat : Nat) : Int) = (f.toNat : Int) from wrap64_id (by omega) (by have := f.toNat_lt; omega)]
  go_wp2_with (first
    | (go_at_call 110; have _t := tO2; go_must (refine (ro_any b (some ⟨bb, oo, none⟩) n c _ _ (HS.out _ ((HX1.out.s1_0 (.slice A1 row.length c1)).s1_1 (.int .i64 (f.toNat : Int))).drew.box.up) hn).mono ?_); rw [show ((p1 : Int) + 2) = ((p1 + 2 : Nat) : Int) from by omega, H2.out]; rintro e x2 hp; obtain ⟨A2, c2, rfl, _, hO2, hb2⟩ := hp.at_ (n := qual.length) rfl rfl rfl; have HX2 := Lib.hid (((HX1.out.s1_0 (.slice A1 row.length c1)).s1_1 (.int .i64 (f.toNat : Int))).drew.fresh hb2 hO2); clear hb2 hp hO2 tO2 g1 g2; clear z0 y0 z1 y1 z2 y2 z3 y3 z4 y4 z5 y5 z6 y6 fz fy; have z0 := HX2.out.box.c0 (i := 0) (v := .slice none 0 0) rfl rfl; have y0 := HX2.out.box.c1 (i := 0) (v := .slice A1 row.length c1) rfl rfl; have z1 := HX2.out.box.c0 (i := 1) (v := .int .i64 0) rfl rfl; have y1 := HX2.out.box.c1 (i := 1) (v := .int .i64 (f.toNat : Int)) rfl rfl; have z2 := HX2.out.box.c0 (i := 2) (v := .slice none 0 0) rfl rfl; have y2 := HX2.out.box.c1 (i := 2) (v := .slice none 0 0) rfl rfl; have z3 := HX2.out.box.c0 (i := 3) (v := .int .i64 0) rfl rfl; have y3 := HX2.out.box.c1 (i := 3) (v := .int .i64 0) rfl rfl; have z4 := HX2.out.box.c0 (i := 4) (v := .int .i64 0) rfl rfl; have y4 := HX2.out.box.c1 (i := 4) (v := .int .i64 0) rfl rfl; have z5 := HX2.out.box.c0 (i := 5) (v := .int .i64 0) rfl rfl; have y5 := HX2.out.box.c1 (i := 5) (v := .int .i64 0) rfl rfl; have z6 := HX2.out.box.c0 (i := 6) (v := .slice none 0 0) rfl rfl; have y6 := HX2.out.box.c1 (i := 6) (v := .slice none 0 0) rfl rfl; have fz := HX2.out.box.f0 rfl; have fy := HX2.out.box.f1 rfl)
    | (go_at_call 111; have _t := tF1; go_must (refine (rfl_any b (some ⟨bb, oo, none⟩) n c _ _ (HS.out _ (HX2.out.s1_2 (.slice A2 qual.length c2)).box.up) hn).mono ?_); rw [show ((p2 : Int) + 1) = ((p2 + 1 : Nat) : Int) from by omega, H3.out]; rintro e x3 ⟨rfl, rfl⟩; clear tF1)
    | (go_at_call 111; go_must (refine (rfl_any b (some ⟨bb, oo, none⟩) n c _ _ (HS.out _ ((HX2.out.s1_2 (.slice A2 qual.length c2)).s1_3 (.int .i64 (t : Int))).box.up) hn).mono ?_); rw [H4.out]; rintro e x4 ⟨rfl, rfl⟩))
  (try simp only [Exit.inBlock, Exit.then])
  have HR := Lib.hid (((((HX2.out.s1_2 (.slice A2 qual.length c2)).s1_3 (.int .i64 (t : Int))).s1_4 (.int .i64 (s : Int))).fill7 rfl (.slice A1 row.length c1) (.int .i64 (f.toNat : Int)) (.slice A2 qual.length c2) (.int .i64 (t : Int)) (.int .i64 (s : Int)) (.int .i64 0) (.slice none 0 0)))
  refine bodyPost_ret (results_box1 rfl _ _ w.heap.size _ rfl (HR.out.box.cells0 rfl) (by kernel_rfl) (by kernel_rfl)) rfl ?_
  exact ⟨⟨_, _, _, _, _, _, _, _, _, _, rfl⟩, HR.out.box.up⟩
set_option maxRecDepth 100000 in
set_option maxHeartbeats 2000000 in
theorem pa_P_f4b (b : List UInt8) (A : Option Addr) (n c : Nat) (w : World) (row : List UInt8) (p1 : Nat) (f g : UInt8) (qual : List UInt8) (p2 : Nat) (t p3 : Nat) (s p4 : Nat) (hs : Sl w A n c b) (hn : n ≤ 140737488355000) (h0 : readO b 0 = (row, p1, 0)) (hlen : p1 + 2 ≤ n) (hf : b[p1]? = some f) (hg : b[p1 + 1]? = some g) (hg0 : g.toNat ≠ 0) (h2 : readO b ((p1 + 2 : Nat) : Int) = (qual, p2, 0)) (hlen2 : p2 < n) (h3 : readFl b (((p2 + 1) : Nat) : Int) = (t, p3, 0)) (h4 : readFl b (p3 : Int) = (s, p4, 0)) (hsh : n ≤ p4) :
    Calls Tryd.prog 96 #[.slice A n c] w (NoPost w) := by
  have HS : Hid (∀ x, Below w.heap.size w x → Sl x A n c b) := Lib.hid fun x h => hs.later h
  have HX0 := Lib.hid (Bt.of (T := 5) (Bxs.two w 37 #[.slice none 0 0, .int .i64 0, .slice none 0 0, .int .i64 0, .int .i64 0, .int .i64 0, .slice none 0 0] #[.slice none 0 0, .int .i64 0, .slice none 0 0, .int .i64 0, .int .i64 0, .int .i64 0, .slice none 0 0]))
  have H0 := Lib.hid h0
  obtain ⟨bb, oo, _, rfl, hbb, _, _⟩ := hs.rb.at_ (k := p1) (by omega)
  have HC : Hid (∀ (j : Nat) (u : UInt8) x, b[j]? = some u → Below w.heap.size w x → x.cell? ⟨bb, oo + j, none⟩ = some (.int .u8 (u.toNat : Int))) := Lib.hid fun j u x hu hx => (hs.rb.later hx).cell hu
  have hbb0 : ¬ bb = w.heap.size := by omega
  have hbb1 : ¬ bb = w.heap.size + 1 := by omega
  have HF := Lib.hid hf
  have HG := Lib.hid hg
  have hgd : ((g.toNat : Int) != 0) = true := by rw [bne_iff_ne]; omega
  have H2 := Lib.hid h2
  have H3 := Lib.hid h3
  have H4 := Lib.hid h4
  have q1 : (p1 : Int) < (n : Int) := by omega
  have q2 : (p1 : Int) + 1 < (n : Int) := by omega
  have q3 : decide ((n : Int) < (p1 : Int) + 2) = false := decide_eq_false (by omega)
  have q4 : (p2 : Int) < (n : Int) := by omega
  have tO1 : True := trivial
  have tO2 : True := trivial
  have tF1 : True := trivial
  clear hs h0 hf hg hg0 h2 h3 h4
  go_enter Tryd.func96, Tryd.ntmps96
  go_wp2_with (go_at_call 110; have _t := tO1; go_must (refine (ro_any b (some ⟨bb, oo, none⟩) n c 0 _ (HS.out _ HX0.out.box.up) hn).mono ?_); rw [H0.out]; rintro e x1 hp; obtain ⟨A1, c1, rfl, _, hO1, hb1⟩ := hp.at_ (n := row.length) rfl rfl rfl; have HX1 := Lib.hid (HX0.out.fresh hb1 hO1); clear hb1 hp hO1 tO1; have z0 := HX1.out.box.c0 (i := 0) (v := .slice none 0 0) rfl rfl; have y0 := HX1.out.box.c1 (i := 0) (v := .slice none 0 0) rfl rfl; have z1 := HX1.out.box.c0 (i := 1) (v := .int .i64 0) rfl rfl; have y1 := HX1.out.box.c1 (i := 1) (v := .int .i64 0) rfl rfl; have z2 := HX1.out.box.c0 (i := 2) (v := .slice none 0 0) rfl rfl; have y2 := HX1.out.box.c1 (i := 2) (v := .slice none 0 0) rfl rfl; have z3 := HX1.out.box.c0 (i := 3) (v := .int .i64 0) rfl rfl; have y3 := HX1.out.box.c1 (i := 3) (v := .int .i64 0) rfl rfl; have z4 := HX1.out.box.c0 (i := 4) (v := .int .i64 0) rfl rfl; have y4 := HX1.out.box.c1 (i := 4) (v := .int .i64 0) rfl rfl; have z5 := HX1.out.box.c0 (i := 5) (v := .int .i64 0) rfl rfl; have y5 := HX1.out.box.c1 (i := 5) (v := .int .i64 0) rfl rfl; have z6 := HX1.out.box.c0 (i := 6) (v := .slice none 0 0) rfl rfl; have y6 := HX1.out.box.c1 (i := 6) (v := .slice none 0 0) rfl rfl; have fz := HX1.out.box.f0 rfl; have fy := HX1.out.box.f1 rfl; have g1 := HC.out p1 f _ HF.out HX1.out.box.up; have g2 := HC.out (p1 + 1) g _ HG.out HX1.out.box.up)
  go_region
  rw [show wrap64 ((f.toNat : Nat) : Int) = (f.toNat : Int) from wrap64_id (by omega) (by have := f.toNat_lt; omega)]
  go_wp2_with (first
    | (go_at_call 110; have _t := tO2; go_must (refine (ro_any b (some ⟨bb, oo, none⟩) n c _ _ (HS.out _ ((HX1.out.s1_0 (.slice A1 row.length c1)).s1_1 (.int .i64 (f.toNat : Int))).drew.box.up) hn).mono ?_); rw [show ((p1 : Int) + 2) = ((p1 + 2 : Nat) : Int) from by omega, H2.out]; rintro e x2 hp; obtain ⟨A2, c2, rfl, _, hO2, hb2⟩ := hp.at_ (n := qual.length) rfl rfl rfl; have HX2 := Lib.hid (((HX1.out.s1_0 (.slice A1 row.length c1)).s1_1 (.int .i64 (f.toNat : Int))).drew.fresh hb2 hO2); clear hb2 hp hO2 tO2 g1 g2; clear z0 y0 z1 y1 z2 y2 z3 y3 z4 y4 z5 y5 z6 y6 fz fy; have z0 := HX2.out.box.c0 (i := 0) (v := .slice none 0 0) rfl rfl; have y0 := HX2.out.box.c1 (i := 0) (v := .slice A1 row.length c1) rfl rfl; have z1 := HX2.out.box.c0 (i := 1) (v := .int .i64 0) rfl rfl; have y1 := HX2.out.box.c1 (i := 1) (v := .int .i64 (f.toNat : Int)) rfl rfl; have z2 := HX2.out.box.c0 (i := 2) (v := .slice none 0 0) rfl rfl; have y2 := HX2.out.box.c1 (i := 2) (v := .slice none 0 0) rfl rfl; have z3 := HX2.out.box.c0 (i := 3) (v := .int .i64 0) rfl rfl; have y3 := HX2.out.box.c1 (i := 3) (v := .int .i64 0) rfl rfl; have z4 := HX2.out.box.c0 (i := 4) (v := .int .i64 0) rfl rfl; have y4 := HX2.out.box.c1 (i := 4) (v := .int .i64 0) rfl rfl; have z5 := HX2.out.box.c0 (i := 5) (v := .int .i64 0) rfl rfl; have y5 := HX2.out.box.c1 (i := 5) (v := .int .i64 0) rfl rfl; have z6 := HX2.out.box.c0 (i := 6) (v := .slice none 0 0) rfl rfl; have y6 := HX2.out.box.c1 (i := 6) (v := .slice none 0 0) rfl rfl; have fz := HX2.out.box.f0 rfl; have fy := HX2.out.box.f1 rfl)
    | (go_at_call 111; have _t := tF1; go_must (refine (rfl_any b (some ⟨bb, oo, none⟩) n c _ _ (HS.out _ (HX2.out.s1_2 (.slice A2 qual.length c2)).box.up) hn).mono ?_); rw [show ((p2 : Int) + 1) = ((p2 + 1 : Nat) : Int) from by omega, H3.out]; rintro e x3 ⟨rfl, rfl⟩; clear tF1)
    | (go_at_call 111; go_must (refine (rfl_any b (some ⟨bb, oo, none⟩) n c _ _ (HS.out _ ((HX2.out.s1_2 (.slice A2 qual.length c2)).s1_3 (.int .i64 (t : Int))).box.up) hn).mono ?_); rw [H4.out]; rintro e x4 ⟨rfl, rfl⟩))
  (try simp only [Exit.inBlock, Exit.then])
  have HR := Lib.hid (((((HX2.out.s1_2 (.slice A2 qual.length c2)).s1_3 (.int .i64 (t : Int))).s1_4 (.int .i64 (s : Int))).fill7 rfl (.slice A1 row.length c1) (.int .i64 (f.toNat : Int)) (.slice A2 qual.length c2) (.int .i64 (t : Int)) (.int .i64 (s : Int)) (.int .i64 0) (.slice none 0 0)))
  refine bodyPost_ret (results_box1 rfl _ _ w.heap.size _ rfl (HR.out.box.cells0 rfl) (by kernel_rfl) (by kernel_rfl)) rfl ?_
  exact ⟨⟨_, _, _, _, _, _, _, _, _, _, rfl⟩, HR.out.box.up⟩
set_option maxRecDepth 100000 in
set_option maxHeartbeats 2000000 in
theorem pa_P_ok (b : List UInt8) (A : Option Addr) (n c : Nat) (w : World) (row : List UInt8) (p1 : Nat) (f g : UInt8) (qual : List UInt8) (p2 : Nat) (t p3 : Nat) (s p4 : Nat) (k : UInt8) (hs : Sl w A n c b) (hn : n ≤ 140737488355000) (h0 : readO b 0 = (row, p1, 0)) (hlen : p1 + 2 ≤ n) (hf : b[p1]? = some f) (hg : b[p1 + 1]? = some g) (hg0 : g.toNat ≠ 0) (h2 : readO b ((p1 + 2 : Nat) : Int) = (qual, p2, 0)) (hlen2 : p2 < n) (h3 : readFl b (((p2 + 1) : Nat) : Int) = (t, p3, 0)) (h4 : readFl b (p3 : Int) = (s, p4, 0)) (hlen4 : p4 < n) (hk : b[p4]? = some k) :
    Calls Tryd.prog 96 #[.slice A n c] w (EntPost (fun v => .tuple #[v, .bool true]) ⟨row, (f.toNat : Int), qual, (t : Int), (s : Int), (k.toNat : Int), []⟩ w) := by
  have HS : Hid (∀ x, Below w.heap.size w x → Sl x A n c b) := Lib.hid fun x h => hs.later h
  have HX0 := Lib.hid (Bt.of (T := 5) (Bxs.two w 37 #[.slice none 0 0, .int .i64 0, .slice none 0 0, .int .i64 0, .int .i64 0, .int .i64 0, .slice none 0 0] #[.slice none 0 0, .int .i64 0, .slice none 0 0, .int .i64 0, .int .i64 0, .int .i64 0, .slice none 0 0]))
  have H0 := Lib.hid h0
  obtain ⟨bb, oo, _, rfl, hbb, _, _⟩ := hs.rb.at_ (k := p1) (by omega)
  have HC : Hid (∀ (j : Nat) (u : UInt8) x, b[j]? = some u → Below w.heap.size w x → x.cell? ⟨bb, oo + j, none⟩ = some (.int .u8 (u.toNat : Int))) := Lib.hid fun j u x hu hx => (hs.rb.later hx).cell hu
  have hbb0 : ¬ bb = w.heap.size := by omega
  have hbb1 : ¬ bb = w.heap.size + 1 := by omega
  have HF := Lib.hid hf
  have HG := Lib.hid hg
  have hgd : ((g.toNat : Int) != 0) = true := by rw [bne_iff_ne]; omega
  have H2 := Lib.hid h2
  have H3 := Lib.hid h3
  have H4 := Lib.hid h4
  have HK := Lib.hid hk
  have q1 : (p1 : Int) < (n : Int) := by omega
  have q2 : (p1 : Int) + 1 < (n : Int) := by omega
  have q3 : decide ((n : Int) < (p1 : Int) + 2) = false := decide_eq_false (by omega)
  have q4 : (p2 : Int) < (n : Int) := by omega
  have q5 : (p4 : Int) < (n : Int) := by omega
  have q6 : wrap64 ((k.toNat : Nat) : Int) = (k.toNat : Int) := wrap64_id (by omega) (by have := k.toNat_lt; omega)
  have q7 : IntKind.i64.wrap ((k.toNat : Nat) : Int) = (k.toNat : Int) := i64_sum (by omega) (by have := k.toNat_lt; omega)
  have tO1 : True := trivial
  have tO2 : True := trivial
  have tF1 : True := trivial
  clear hs h0 hf hg hg0 h2 h3 h4 hk
  go_enter Tryd.func96, Tryd.ntmps96
  go_wp2_with (go_at_call 110; have _t := tO1; go_must (refine (ro_any b (some ⟨bb, oo, none⟩) n c 0 _ (HS.out _ HX0.out.box.up) hn).mono ?_); rw [H0.out]; rintro e x1 hp; obtain ⟨A1, c1, rfl, _, hO1, hb1⟩ := hp.at_ (n := row.length) rfl rfl rfl; have HX1 := Lib.hid (HX0.out.fresh hb1 hO1); clear hb1 hp hO1 tO1; have z0 := HX1.out.box.c0 (i := 0) (v := .slice none 0 0) rfl rfl; have y0 := HX1.out.box.c1 (i := 0) (v := .slice none 0 0) rfl rfl; have z1 := HX1.out.box.c0 (i := 1) (v := .int .i64 0) rfl rfl; have y1 := HX1.out.box.c1 (i := 1) (v := .int .i64 0) rfl rfl; have z2 := HX1.out.box.c0 (i := 2) (v := .slice none 0 0) rfl rfl; have y2 := HX1.out.box.c1 (i := 2) (v := .slice none 0 0) rfl rfl; have z3 := HX1.out.box.c0 (i := 3) (v := .int .i64 0) rfl rfl; have y3 := HX1.out.box.c1 (i := 3) (v := .int .i64 0) rfl rfl; have z4 := HX1.out.box.c0 (i := 4) (v := .int .i64 0) rfl rfl; have y4 := HX1.out.box.c1 (i := 4) (v := .int .i64 0) rfl rfl; have z5 := HX1.out.box.c0 (i := 5) (v := .int .i64 0) rfl rfl; have y5 := HX1.out.box.c1 (i := 5) (v := .int .i64 0) rfl rfl; have z6 := HX1.out.box.c0 (i := 6) (v := .slice none 0 0) rfl rfl; have y6 := HX1.out.box.c1 (i := 6) (v := .slice none 0 0) rfl rfl; have fz := HX1.out.box.f0 rfl; have fy := HX1.out.box.f1 rfl; have g1 := HC.out p1 f _ HF.out HX1.out.box.up; have g2 := HC.out (p1 + 1) g _ HG.out HX1.out.box.up; have g3 := HC.out p4 k _ HK.out HX1.out.box.up)
  go_region
  rw [show wrap64 ((f.toNat : Nat) : Int) = (f.toNat : Int) from wrap64_id (by omega) (by have := f.toNat_lt; omega)]
  go_wp2_with (first
    | (go_at_call 110; have _t := tO2; go_must (refine (ro_any b (some ⟨bb, oo, none⟩) n c _ _ (HS.out _ ((HX1.out.s1_0 (.slice A1 row.length c1)).s1_1 (.int .i64 (f.toNat : Int))).drew.box.up) hn).mono ?_); rw [show ((p1 : Int) + 2) = ((p1 + 2 : Nat) : Int) from by omega, H2.out]; rintro e x2 hp; obtain ⟨A2, c2, rfl, _, hO2, hb2⟩ := hp.at_ (n := qual.length) rfl rfl rfl; have HX2 := Lib.hid (((HX1.out.s1_0 (.slice A1 row.length c1)).s1_1 (.int .i64 (f.toNat : Int))).drew.fresh hb2 hO2); clear hb2 hp hO2 tO2 g1 g2 g3; clear z0 y0 z1 y1 z2 y2 z3 y3 z4 y4 z5 y5 z6 y6 fz fy; have z0 := HX2.out.box.c0 (i := 0) (v := .slice none 0 0) rfl rfl; have y0 := HX2.out.box.c1 (i := 0) (v := .slice A1 row.length c1) rfl rfl; have z1 := HX2.out.box.c0 (i := 1) (v := .int .i64 0) rfl rfl; have y1 := HX2.out.box.c1 (i := 1) (v := .int .i64 (f.toNat : Int)) rfl rfl; have z2 := HX2.out.box.c0 (i := 2) (v := .slice none 0 0) rfl rfl; have y2 := HX2.out.box.c1 (i := 2) (v := .slice none 0 0) rfl rfl; have z3 := HX2.out.box.c0 (i := 3) (v := .int .i64 0) rfl rfl; have y3 := HX2.out.box.c1 (i := 3) (v := .int .i64 0) rfl rfl; have z4 := HX2.out.box.c0 (i := 4) (v := .int .i64 0) rfl rfl; have y4 := HX2.out.box.c1 (i := 4) (v := .int .i64 0) rfl rfl; have z5 := HX2.out.box.c0 (i := 5) (v := .int .i64 0) rfl rfl; have y5 := HX2.out.box.c1 (i := 5) (v := .int .i64 0) rfl rfl; have z6 := HX2.out.box.c0 (i := 6) (v := .slice none 0 0) rfl rfl; have y6 := HX2.out.box.c1 (i := 6) (v := .slice none 0 0) rfl rfl; have fz := HX2.out.box.f0 rfl; have fy := HX2.out.box.f1 rfl; have g3 := HC.out p4 k _ HK.out HX2.out.box.up)
    | (go_at_call 111; have _t := tF1; go_must (refine (rfl_any b (some ⟨bb, oo, none⟩) n c _ _ (HS.out _ (HX2.out.s1_2 (.slice A2 qual.length c2)).box.up) hn).mono ?_); rw [show ((p2 : Int) + 1) = ((p2 + 1 : Nat) : Int) from by omega, H3.out]; rintro e x3 ⟨rfl, rfl⟩; clear tF1)
    | (go_at_call 111; go_must (refine (rfl_any b (some ⟨bb, oo, none⟩) n c _ _ (HS.out _ ((HX2.out.s1_2 (.slice A2 qual.length c2)).s1_3 (.int .i64 (t : Int))).box.up) hn).mono ?_); rw [H4.out]; rintro e x4 ⟨rfl, rfl⟩))
  (try simp only [Exit.inBlock, Exit.then])
  have HR := Lib.hid ((((((HX2.out.s1_2 (.slice A2 qual.length c2)).s1_3 (.int .i64 (t : Int))).s1_4 (.int .i64 (s : Int))).s1_5 (.int .i64 (k.toNat : Int))).fill7 rfl (.slice A1 row.length c1) (.int .i64 (f.toNat : Int)) (.slice A2 qual.length c2) (.int .i64 (t : Int)) (.int .i64 (s : Int)) (.int .i64 (k.toNat : Int)) (.slice none 0 0)))
  refine bodyPost_ret (results_box1 rfl _ _ w.heap.size _ rfl (HR.out.box.cells0 rfl) (by kernel_rfl) (by kernel_rfl)) rfl ?_
  exact ent_post (mk := fun v => .tuple #[v, .bool true]) (rows_low HR.out.rows (Nat.le_add_right _ _)) HR.out.box.up
set_option maxRecDepth 100000 in
set_option maxHeartbeats 2000000 in
theorem pa_N_f3 (b : List UInt8) (A : Option Addr) (n c : Nat) (w : World) (row : List UInt8) (p1 : Nat) (f g : UInt8) (t p3 er : Nat) (hs : Sl w A n c b) (hn : n ≤ 140737488355000) (h0 : readO b 0 = (row, p1, 0)) (hlen : p1 + 2 ≤ n) (hf : b[p1]? = some f) (hg : b[p1 + 1]? = some g) (hg0 : g.toNat = 0) (h3 : readFl b (((p1 + 2) : Nat) : Int) = (t, p3, er)) (he : er ≠ 0) :
    Calls Tryd.prog 96 #[.slice A n c] w (NoPost w) := by
  have HS : Hid (∀ x, Below w.heap.size w x → Sl x A n c b) := Lib.hid fun x h => hs.later h
  have HX0 := Lib.hid (Bt.of (T := 5) (Bxs.two w 37 #[.slice none 0 0, .int .i64 0, .slice none 0 0, .int .i64 0, .int .i64 0, .int .i64 0, .slice none 0 0] #[.slice none 0 0, .int .i64 0, .slice none 0 0, .int .i64 0, .int .i64 0, .int .i64 0, .slice none 0 0]))
  have H0 := Lib.hid h0
  obtain ⟨bb, oo, _, rfl, hbb, _, _⟩ := hs.rb.at_ (k := p1) (by omega)
  have HC : Hid (∀ (j : Nat) (u : UInt8) x, b[j]? = some u → Below w.heap.size w x → x.cell? ⟨bb, oo + j, none⟩ = some (.int .u8 (u.toNat : Int))) := Lib.hid fun j u x hu hx => (hs.rb.later hx).cell hu
  have hbb0 : ¬ bb = w.heap.size := by omega
  have hbb1 : ¬ bb = w.heap.size + 1 := by omega
  have HF := Lib.hid hf
  have HG := Lib.hid hg
  have hgd : ((g.toNat : Int) != 0) = false := by rw [hg0]; rfl
  have H3 := Lib.hid h3
  have hd : ((er : Int) != 0) = true := by rw [bne_iff_ne]; omega
  have q1 : (p1 : Int) < (n : Int) := by omega
  have q2 : (p1 : Int) + 1 < (n : Int) := by omega
  have q3 : decide ((n : Int) < (p1 : Int) + 2) = false := decide_eq_false (by omega)
  have tO1 : True := trivial
  have tF1 : True := trivial
  clear hs h0 hf hg hg0 h3 he
  go_enter Tryd.func96, Tryd.ntmps96
  go_wp2_with (go_at_call 110; have _t := tO1; go_must (refine (ro_any b (some ⟨bb, oo, none⟩) n c 0 _ (HS.out _ HX0.out.box.up) hn).mono ?_); rw [H0.out]; rintro e x1 hp; obtain ⟨A1, c1, rfl, _, hO1, hb1⟩ := hp.at_ (n := row.length) rfl rfl rfl; have HX1 := Lib.hid (HX0.out.fresh hb1 hO1); clear hb1 hp hO1 tO1; have z0 := HX1.out.box.c0 (i := 0) (v := .slice none 0 0) rfl rfl; have y0 := HX1.out.box.c1 (i := 0) (v := .slice none 0 0) rfl rfl; have z1 := HX1.out.box.c0 (i := 1) (v := .int .i64 0) rfl rfl; have y1 := HX1.out.box.c1 (i := 1) (v := .int .i64 0) rfl rfl; have z2 := HX1.out.box.c0 (i := 2) (v := .slice none 0 0) rfl rfl; have y2 := HX1.out.box.c1 (i := 2) (v := .slice none 0 0) rfl rfl; have z3 := HX1.out.box.c0 (i := 3) (v := .int .i64 0) rfl rfl; have y3 := HX1.out.box.c1 (i := 3) (v := .int .i64 0) rfl rfl; have z4 := HX1.out.box.c0 (i := 4) (v := .int .i64 0) rfl rfl; have y4 := HX1.out.box.c1 (i := 4) (v := .int .i64 0) rfl rfl; have z5 := HX1.out.box.c0 (i := 5) (v := .int .i64 0) rfl rfl; have y5 := HX1.out.box.c1 (i := 5) (v := .int .i64 0) rfl rfl; have z6 := HX1.out.box.c0 (i := 6) (v := .slice none 0 0) rfl rfl; have y6 := HX1.out.box.c1 (i := 6) (v := .slice none 0 0) rfl rfl; have fz := HX1.out.box.f0 rfl; have fy := HX1.out.box.f1 rfl; have g1 := HC.out p1 f _ HF.out HX1.out.box.up; have g2 := HC.out (p1 + 1) g _ HG.out HX1.out.box.up)
  go_region
  rw [show wrap64 ((f.toNat : Nat) : Int) = (f.toNat : Int) from wrap64_id (by omega) (by have := f.toNat_lt; omega)]
  go_wp2_with (first
    | (go_at_call 111; have _t := tF1; go_must (refine (rfl_any b (some ⟨bb, oo, none⟩) n c _ _ (HS.out _ ((HX1.out.s1_0 (.slice A1 row.length c1)).s1_1 (.int .i64 (f.toNat : Int))).drew.box.up) hn).mono ?_); rw [show ((p1 : Int) + 2) = ((p1 + 2 : Nat) : Int) from by omega, H3.out]; rintro e x3 ⟨rfl, rfl⟩; clear tF1))
  (try simp only [Exit.inBlock, Exit.then])
  have HR := Lib.hid (((((HX1.out.s1_0 (.slice A1 row.length c1)).s1_1 (.int .i64 (f.toNat : Int))).s1_3 (.int .i64 (t : Int))).fill7 rfl (.slice A1 row.length c1) (.int .i64 (f.toNat : Int)) (.slice none 0 0) (.int .i64 (t : Int)) (.int .i64 0) (.int .i64 0) (.slice none 0 0)).drew)
  refine bodyPost_ret (results_box1 rfl _ _ w.heap.size _ rfl (HR.out.box.cells0 rfl) (by kernel_rfl) (by kernel_rfl)) rfl ?_
  exact ⟨⟨_, _, _, _, _, _, _, _, _, _, rfl⟩, HR.out.box.up⟩
set_option maxRecDepth 100000 in
set_option maxHeartbeats 2000000 in
theorem pa_N_f4a (b : List UInt8) (A : Option Addr) (n c : Nat) (w : World) (row : List UInt8) (p1 : Nat) (f g : UInt8) (t p3 : Nat) (s p4 er : Nat) (hs : Sl w A n c b) (hn : n ≤ 140737488355000) (h0 : readO b 0 = (row, p1, 0)) (hlen : p1 + 2 ≤ n) (hf : b[p1]? = some f) (hg : b[p1 + 1]? = some g) (hg0 : g.toNat = 0) (h3 : readFl b (((p1 + 2) : Nat) : Int) = (t, p3, 0)) (h4 : readFl b (p3 : Int) = (s, p4, er)) (he : er ≠ 0) :
    Calls Tryd.prog 96 #[.slice A n c] w (NoPost w) := by
  have HS : Hid (∀ x, Below w.heap.size w x → Sl x A n c b) := Lib.hid fun x h => hs.later h
  have HX0 := Lib.hid (Bt.of (T := 5) (Bxs.two w 37 #[.slice none 0 0, .int .i64 0, .slice none 0 0, .int .i64 0, .int .i64 0, .int .i64 0, .slice none 0 0] #[.slice none 0 0, .int .i64 0, .slice none 0 0, .int .i64 0, .int .i64 0, .int .i64 0, .slice none 0 0]))
  have H0 := Lib.hid h0
  obtain ⟨bb, oo, _, rfl, hbb, _, _⟩ := hs.rb.at_ (k := p1) (by omega)
  have HC : Hid (∀ (j : Nat) (u : UInt8) x, b[j]? = some u → Below w.heap.size w x → x.cell? ⟨bb, oo + j, none⟩ = some (.int .u8 (u.toNat : Int))) := Lib.hid fun j u x hu hx => (hs.rb.later hx).cell hu
  have hbb0 : ¬ bb = w.heap.size := by omega
  have hbb1 : ¬ bb = w.heap.size + 1 := by omega
  have HF := Lib.hid hf
  have HG := Lib.hid hg
  have hgd : ((g.toNat : Int) != 0) = false := by rw [hg0]; rfl
  have H3 := Lib.hid h3
  have H4 := Lib.hid h4
  have hd : ((er : Int) != 0) = true := by rw [bne_iff_ne]; omega
  have q1 : (p1 : Int) < (n : Int) := by omega
  have q2 : (p1 : Int) + 1 < (n : Int) := by omega
  have q3 : decide ((n : Int) < (p1 : Int) + 2) = false := decide_eq_false (by omega)
  have tO1 : True := trivial
  have tF1 : True := trivial
  clear hs h0 hf hg hg0 h3 h4 he
  go_enter Tryd.func96, Tryd.ntmps96
  go_wp2_with (go_at_call 110; have _t := tO1; go_must (refine (ro_any b (some ⟨bb, oo, none⟩) n c 0 _ (HS.out _ HX0.out.box.up) hn).mono ?_); rw [H0.out]; rintro e x1 hp; obtain ⟨A1, c1, rfl, _, hO1, hb1⟩ := hp.at_ (n := row.length) rfl rfl rfl; have HX1 := Lib.hid (HX0.out.fresh hb1 hO1); clear hb1 hp hO1 tO1; have z0 := HX1.out.box.c0 (i := 0) (v := .slice none 0 0) rfl rfl; have y0 := HX1.out.box.c1 (i := 0) (v := .slice none 0 0) rfl rfl; have z1 := HX1.out.box.c0 (i := 1) (v := .int .i64 0) rfl rfl; have y1 := HX1.out.box.c1 (i := 1) (v := .int .i64 0) rfl rfl; have z2 := HX1.out.box.c0 (i := 2) (v := .slice none 0 0) rfl rfl; have y2 := HX1.out.box.c1 (i := 2) (v := .slice none 0 0) rfl rfl; have z3 := HX1.out.box.c0 (i := 3) (v := .int .i64 0) rfl rfl; have y3 := HX1.out.box.c1 (i := 3) (v := .int .i64 0) rfl rfl; have z4 := HX1.out.box.c0 (i := 4) (v := .int .i64 0) rfl rfl; have y4 := HX1.out.box.c1 (i := 4) (v := .int .i64 0) rfl rfl; have z5 := HX1.out.box.c0 (i := 5) (v := .int .i64 0) rfl rfl; have y5 := HX1.out.box.c1 (i := 5) (v := .int .i64 0) rfl rfl; have z6 := HX1.out.box.c0 (i := 6) (v := .slice none 0 0) rfl rfl; have y6 := HX1.out.box.c1 (i := 6) (v := .slice none 0 0) rfl rfl; have fz := HX1.out.box.f0 rfl; have fy := HX1.out.box.f1 rfl; have g1 := HC.out p1 f _ HF.out HX1.out.box.up; have g2 := HC.out (p1 + 1) g _ HG.out HX1.out.box.up)
  go_region
  rw [show wrap64 ((f.toNat : Nat) : Int) = (f.toNat : Int) from wrap64_id (by omega) (by have := f.toNat_lt; omega)]
  go_wp2_with (first
    | (go_at_call 111; have _t := tF1; go_must (refine (rfl_any b (some ⟨bb, oo, none⟩) n c _ _ (HS.out _ ((HX1.out.s1_0 (.slice A1 row.length c1)).s1_1 (.int .i64 (f.toNat : Int))).drew.box.up) hn).mono ?_); rw [show ((p1 : Int) + 2) = ((p1 + 2 : Nat) : Int) from by omega, H3.out]; rintro e x3 ⟨rfl, rfl⟩; clear tF1)
    | (go_at_call 111; go_must (refine (rfl_any b (some ⟨bb, oo, none⟩) n c _ _ (HS.out _ (((HX1.out.s1_0 (.slice A1 row.length c1)).s1_1 (.int .i64 (f.toNat : Int))).s1_3 (.int .i64 (t : Int))).drew.box.up) hn).mono ?_); rw [H4.out]; rintro e x4 ⟨rfl, rfl⟩))
  (try simp only [Exit.inBlock, Exit.then])
  have HR := Lib.hid ((((((HX1.out.s1_0 (.slice A1 row.length c1)).s1_1 (.int .i64 (f.toNat : Int))).s1_3 (.int .i64 (t : Int))).s1_4 (.int .i64 (s : Int))).fill7 rfl (.slice A1 row.length c1) (.int .i64 (f.toNat : Int)) (.slice none 0 0) (.int .i64 (t : Int)) (.int .i64 (s : Int)) (.int .i64 0) (.slice none 0 0)).drew)
  refine bodyPost_ret (results_box1 rfl _ _ w.heap.size _ rfl (HR.out.box.cells0 rfl) (by kernel_rfl) (by kernel_rfl)) rfl ?_
  exact ⟨⟨_, _, _, _, _, _, _, _, _, _, rfl⟩, HR.out.box.up⟩
set_option maxRecDepth 100000 in
set_option maxHeartbeats 2000000 in
theorem pa_N_f4b (b : List UInt8) (A : Option Addr) (n c : Nat) (w : World) (row : List UInt8) (p1 : Nat) (f g : UInt8) (t p3 : Nat) (s p4 : Nat) (hs : Sl w A n c b) (hn : n ≤ 140737488355000) (h0 : readO b 0 = (row, p1, 0)) (hlen : p1 + 2 ≤ n) (hf : b[p1]? = some f) (hg : b[p1 + 1]? = some g) (hg0 : g.toNat = 0) (h3 : readFl b (((p1 + 2) : Nat) : Int) = (t, p3, 0)) (h4 : readFl b (p3 : Int) = (s, p4, 0)) (hsh : n ≤ p4) :
    Calls Tryd.prog 96 #[.slice A n c] w (NoPost w) := by
  have HS : Hid (∀ x, Below w.heap.size w x → Sl x A n c b) := Lib.hid fun x h => hs.later h
  have HX0 := Lib.hid (Bt.of (T := 5) (Bxs.two w 37 #[.slice none 0 0, .int .i64 0, .slice none 0 0, .int .i64 0, .int .i64 0, .int .i64 0, .slice none 0 0] #[.slice none 0 0, .int .i64 0, .slice none 0 0, .int .i64 0, .int .i64 0, .int .i64 0, .slice none 0 0]))
  have H0 := Lib.hid h0
  obtain ⟨bb, oo, _, rfl, hbb, _, _⟩ := hs.rb.at_ (k := p1) (by omega)
  have HC : Hid (∀ (j : Nat) (u : UInt8) x, b[j]? = some u → Below w.heap.size w x → x.cell? ⟨bb, oo + j, none⟩ = some (.int .u8 (u.toNat : Int))) := Lib.hid fun j u x hu hx => (hs.rb.later hx).cell hu
  have hbb0 : ¬ bb = w.heap.size := by omega
  have hbb1 : ¬ bb = w.heap.size + 1 := by omega
  have HF := Lib.hid hf
  have HG := Lib.hid hg
  have hgd : ((g.toNat : Int) != 0) = false := by rw [hg0]; rfl
  have H3 := Lib.hid h3
  have H4 := Lib.hid h4
  have q1 : (p1 : Int) < (n : Int) := by omega
  have q2 : (p1 : Int) + 1 < (n : Int) := by omega
  have q3 : decide ((n : Int) < (p1 : Int) + 2) = false := decide_eq_false (by omega)
  have tO1 : True := trivial
  have tF1 : True := trivial
  clear hs h0 hf hg hg0 h3 h4
  go_enter Tryd.func96, Tryd.ntmps96
  go_wp2_with (go_at_call 110; have _t := tO1; go_must (refine (ro_any b (some ⟨bb, oo, none⟩) n c 0 _ (HS.out _ HX0.out.box.up) hn).mono ?_); rw [H0.out]; rintro e x1 hp; obtain ⟨A1, c1, rfl, _, hO1, hb1⟩ := hp.at_ (n := row.length) rfl rfl rfl; have HX1 := Lib.hid (HX0.out.fresh hb1 hO1); clear hb1 hp hO1 tO1; have z0 := HX1.out.box.c0 (i := 0) (v := .slice none 0 0) rfl rfl; have y0 := HX1.out.box.c1 (i := 0) (v := .slice none 0 0) rfl rfl; have z1 := HX1.out.box.c0 (i := 1) (v := .int .i64 0) rfl rfl; have y1 := HX1.out.box.c1 (i := 1) (v := .int .i64 0) rfl rfl; have z2 := HX1.out.box.c0 (i := 2) (v := .slice none 0 0) rfl rfl; have y2 := HX1.out.box.c1 (i := 2) (v := .slice none 0 0) rfl rfl; have z3 := HX1.out.box.c0 (i := 3) (v := .int .i64 0) rfl rfl; have y3 := HX1.out.box.c1 (i := 3) (v := .int .i64 0) rfl rfl; have z4 := HX1.out.box.c0 (i := 4) (v := .int .i64 0) rfl rfl; have y4 := HX1.out.box.c1 (i := 4) (v := .int .i64 0) rfl rfl; have z5 := HX1.out.box.c0 (i := 5) (v := .int .i64 0) rfl rfl; have y5 := HX1.out.box.c1 (i := 5) (v := .int .i64 0) rfl rfl; have z6 := HX1.out.box.c0 (i := 6) (v := .slice none 0 0) rfl rfl; have y6 := HX1.out.box.c1 (i := 6) (v := .slice none 0 0) rfl rfl; have fz := HX1.out.box.f0 rfl; have fy := HX1.out.box.f1 rfl; have g1 := HC.out p1 f _ HF.out HX1.out.box.up; have g2 := HC.out (p1 + 1) g _ HG.out HX1.out.box.up)
  go_region
  rw [show wrap64 ((f.toNat : Nat) : Int) = (f.toNat : Int) from wrap64_id (by omega) (by have := f.toNat_lt; omega)]
  go_wp2_with (first
    | (go_at_call 111; have _t := tF1; go_must (refine (rfl_any b (some ⟨bb, oo, none⟩) n c _ _ (HS.out _ ((HX1.out.s1_0 (.slice A1 row.length c1)).s1_1 (.int .i64 (f.toNat : Int))).drew.box.up) hn).mono ?_); rw [show ((p1 : Int) + 2) = ((p1 + 2 : Nat) : Int) from by omega, H3.out]; rintro e x3 ⟨rfl, rfl⟩; clear tF1)
    | (go_at_call 111; go_must (refine (rfl_any b (some ⟨bb, oo, none⟩) n c _ _ (HS.out _ (((HX1.out.s1_0 (.slice A1 row.length c1)).s1_1 (.int .i64 (f.toNat : Int))).s1_3 (.int .i64 (t : Int))).drew.box.up) hn).mono ?_); rw [H4.out]; rintro e x4 ⟨rfl, rfl⟩))
  (try simp only [Exit.inBlock, Exit.then])
  have HR := Lib.hid ((((((HX1.out.s1_0 (.slice A1 row.length c1)).s1_1 (.int .i64 (f.toNat : Int))).s1_3 (.int .i64 (t : Int))).s1_4 (.int .i64 (s : Int))).fill7 rfl (.slice A1 row.length c1) (.int .i64 (f.toNat : Int)) (.slice none 0 0) (.int .i64 (t : Int)) (.int .i64 (s : Int)) (.int .i64 0) (.slice none 0 0)).drew)
  refine bodyPost_ret (results_box1 rfl _ _ w.heap.size _ rfl (HR.out.box.cells0 rfl) (by kernel_rfl) (by kernel_rfl)) rfl ?_
  exact ⟨⟨_, _, _, _, _, _, _, _, _, _, rfl⟩, HR.out.box.up⟩
set_option maxRecDepth 100000 in
set_option maxHeartbeats 2000000 in
theorem pa_N_ok (b : List UInt8) (A : Option Addr) (n c : Nat) (w : World) (row : List UInt8) (p1 : Nat) (f g : UInt8) (t p3 : Nat) (s p4 : Nat) (k : UInt8) (hs : Sl w A n c b) (hn : n ≤ 140737488355000) (h0 : readO b 0 = (row, p1, 0)) (hlen : p1 + 2 ≤ n) (hf : b[p1]? = some f) (hg : b[p1 + 1]? = some g) (hg0 : g.toNat = 0) (h3 : readFl b (((p1 + 2) : Nat) : Int) = (t, p3, 0)) (h4 : readFl b (p3 : Int) = (s, p4, 0)) (hlen4 : p4 < n) (hk : b[p4]? = some k) :
    Calls Tryd.prog 96 #[.slice A n c] w (EntPost (fun v => .tuple #[v, .bool true]) ⟨row, (f.toNat : Int), [], (t : Int), (s : Int), (k.toNat : Int), []⟩ w) := by
  have HS : Hid (∀ x, Below w.heap.size w x → Sl x A n c b) := Lib.hid fun x h => hs.later h
  have HX0 := Lib.hid (Bt.of (T := 5) (Bxs.two w 37 #[.slice none 0 0, .int .i64 0, .slice none 0 0, .int .i64 0, .int .i64 0, .int .i64 0, .slice none 0 0] #[.slice none 0 0, .int .i64 0, .slice none 0 0, .int .i64 0, .int .i64 0, .int .i64 0, .slice none 0 0]))
  have H0 := Lib.hid h0
  obtain ⟨bb, oo, _, rfl, hbb, _, _⟩ := hs.rb.at_ (k := p1) (by omega)
  have HC : Hid (∀ (j : Nat) (u : UInt8) x, b[j]? = some u → Below w.heap.size w x → x.cell? ⟨bb, oo + j, none⟩ = some (.int .u8 (u.toNat : Int))) := Lib.hid fun j u x hu hx => (hs.rb.later hx).cell hu
  have hbb0 : ¬ bb = w.heap.size := by omega
  have hbb1 : ¬ bb = w.heap.size + 1 := by omega
  have HF := Lib.hid hf
  have HG := Lib.hid hg
  have hgd : ((g.toNat : Int) != 0) = false := by rw [hg0]; rfl
  have H3 := Lib.hid h3
  have H4 := Lib.hid h4
  have HK := Lib.hid hk
  have q1 : (p1 : Int) < (n : Int) := by omega
  have q2 : (p1 : Int) + 1 < (n : Int) := by omega
  have q3 : decide ((n : Int) < (p1 : Int) + 2) = false := decide_eq_false (by omega)
  have q5 : (p4 : Int) < (n : Int) := by omega
  have q6 : wrap64 ((k.toNat : Nat) : Int) = (k.toNat : Int) := wrap64_id (by omega) (by have := k.toNat_lt; omega)
  have q7 : IntKind.i64.wrap ((k.toNat : Nat) : Int) = (k.toNat : Int) := i64_sum (by omega) (by have := k.toNat_lt; omega)
  have tO1 : True := trivial
  have tF1 : True := trivial
  clear hs h0 hf hg hg0 h3 h4 hk
  go_enter Tryd.func96, Tryd.ntmps96
  go_wp2_with (go_at_call 110; have _t := tO1; go_must (refine (ro_any b (some ⟨bb, oo, none⟩) n c 0 _ (HS.out _ HX0.out.box.up) hn).mono ?_); rw [H0.out]; rintro e x1 hp; obtain ⟨A1, c1, rfl, _, hO1, hb1⟩ := hp.at_ (n := row.length) rfl rfl rfl; have HX1 := Lib.hid (HX0.out.fresh hb1 hO1); clear hb1 hp hO1 tO1; have z0 := HX1.out.box.c0 (i := 0) (v := .slice none 0 0) rfl rfl; have y0 := HX1.out.box.c1 (i := 0) (v := .slice none 0 0) rfl rfl; have z1 := HX1.out.box.c0 (i := 1) (v := .int .i64 0) rfl rfl; have y1 := HX1.out.box.c1 (i := 1) (v := .int .i64 0) rfl rfl; have z2 := HX1.out.box.c0 (i := 2) (v := .slice none 0 0) rfl rfl; have y2 := HX1.out.box.c1 (i := 2) (v := .slice none 0 0) rfl rfl; have z3 := HX1.out.box.c0 (i := 3) (v := .int .i64 0) rfl rfl; have y3 := HX1.out.box.c1 (i := 3) (v := .int .i64 0) rfl rfl; have z4 := HX1.out.box.c0 (i := 4) (v := .int .i64 0) rfl rfl; have y4 := HX1.out.box.c1 (i := 4) (v := .int .i64 0) rfl rfl; have z5 := HX1.out.box.c0 (i := 5) (v := .int .i64 0) rfl rfl; have y5 := HX1.out.box.c1 (i := 5) (v := .int .i64 0) rfl rfl; have z6 := HX1.out.box.c0 (i := 6) (v := .slice none 0 0) rfl rfl; have y6 := HX1.out.box.c1 (i := 6) (v := .slice none 0 0) rfl rfl; have fz := HX1.out.box.f0 rfl; have fy := HX1.out.box.f1 rfl; have g1 := HC.out p1 f _ HF.out HX1.out.box.up; have g2 := HC.out (p1 + 1) g _ HG.out HX1.out.box.up; have g3 := HC.out p4 k _ HK.out HX1.out.box.up)
  go_region
  rw [show wrap64 ((f.toNat : Nat) : Int) = (f.toNat : Int) from wrap64_id (by omega) (by have := f.toNat_lt; omega)]
  go_wp2_with (first
    | (go_at_call 111; have _t := tF1; go_must (refine (rfl_any b (some ⟨bb, oo, none⟩) n c _ _ (HS.out _ ((HX1.out.s1_0 (.slice A1 row.length c1)).s1_1 (.int .i64 (f.toNat : Int))).drew.box.up) hn).mono ?_); rw [show ((p1 : Int) + 2) = ((p1 + 2 : Nat) : Int) from by omega, H3.out]; rintro e x3 ⟨rfl, rfl⟩; clear tF1)
    | (go_at_call 111; go_must (refine (rfl_any b (some ⟨bb, oo, none⟩) n c _ _ (HS.out _ (((HX1.out.s1_0 (.slice A1 row.length c1)).s1_1 (.int .i64 (f.toNat : Int))).s1_3 (.int .i64 (t : Int))).drew.box.up) hn).mono ?_); rw [H4.out]; rintro e x4 ⟨rfl, rfl⟩))
  (try simp only [Exit.inBlock, Exit.then])
  have HR := Lib.hid (((((((HX1.out.s1_0 (.slice A1 row.length c1)).s1_1 (.int .i64 (f.toNat : Int))).s1_3 (.int .i64 (t : Int))).s1_4 (.int .i64 (s : Int))).s1_5 (.int .i64 (k.toNat : Int))).fill7 rfl (.slice A1 row.length c1) (.int .i64 (f.toNat : Int)) (.slice none 0 0) (.int .i64 (t : Int)) (.int .i64 (s : Int)) (.int .i64 (k.toNat : Int)) (.slice none 0 0)).drew)
  refine bodyPost_ret (results_box1 rfl _ _ w.heap.size _ rfl (HR.out.box.cells0 rfl) (by kernel_rfl) (by kernel_rfl)) rfl ?_
  exact ent_post_n (mk := fun v => .tuple #[v, .bool true]) (rows_low HR.out.rows (Nat.le_add_right _ _)) HR.out.box.up
end Go.Proofs.YtmigjipfomfacaaDoor
namespace Go.Proofs.YtmigjipfomfacaaDoor
open Go.RowKit
theorem atB_of {b : List UInt8} {k : Nat} {u : UInt8} (h : b[k]? = some u) : atB b k = u.toNat := by unfold atB; rw [h]; rfl
theorem get_of {b : List UInt8} {k : Nat} (h : k < b.length) : ∃ u, b[k]? = some u := ⟨b[k], List.getElem?_eq_getElem h⟩
theorem parseN_cases (b row : List UInt8) (fam : Nat) (qual : List UInt8) (a : Nat) {C : Option (Ent × Nat) → Prop}
    (f3 : ∀ t p3 er, readFl b (a : Nat) = (t, p3, er) → er ≠ 0 → C none)
    (f4a : ∀ t p3 s p4 er, readFl b (a : Nat) = (t, p3, 0) → readFl b (p3 : Int) = (s, p4, er) → er ≠ 0 → C none)
    (f4b : ∀ t p3 s p4, readFl b (a : Nat) = (t, p3, 0) → readFl b (p3 : Int) = (s, p4, 0) → p4 ≤ b.length → b.length ≤ p4 → C none)
    (ok : ∀ t p3 s p4 k, readFl b (a : Nat) = (t, p3, 0) → readFl b (p3 : Int) = (s, p4, 0) → p4 < b.length → b[p4]? = some k → C (some (⟨row, fam, qual, (t : Int), (s : Int), (k.toNat : Int), []⟩, p4 + 1))) :
    C (parseN b row fam qual a) := by
  unfold parseN
  obtain ⟨t, p3, er, h3⟩ : ∃ t p3 er, readFl b (a : Nat) = (t, p3, er) := ⟨_, _, _, rfl⟩
  rw [h3]
  simp only
  by_cases he : er = 0
  · subst he
    rw [if_neg (by simp)]
    obtain ⟨s, p4, er, h4⟩ : ∃ s p4 er, readFl b (p3 : Int) = (s, p4, er) := ⟨_, _, _, rfl⟩
    rw [h4]
    simp only
    by_cases he : er = 0
    · subst he
      have hend := (readFl_end b p3 (by rw [h4])).2.1
      rw [h4] at hend
      by_cases hl : b.length ≤ p4
      · rw [if_pos (.inr hl)]
        exact f4b t p3 s p4 h3 h4 hend hl
      · rw [if_neg (by rintro (h | h); exact h rfl; exact hl h)]
        obtain ⟨k, hk⟩ := get_of (b := b) (k := p4) (by omega)
        rw [atB_of hk]
        exact ok t p3 s p4 k h3 h4 (by omega) hk
    · rw [if_pos (.inl he)]
      exact f4a t p3 s p4 er h3 h4 he
  · rw [if_pos he]
    exact f3 t p3 er h3 he
theorem parse_cases (b : List UInt8) {C : Option (Ent × Nat) → Prop}
    (f1a : ∀ rw0 p1 er, readO b 0 = (rw0, p1, er) → er ≠ 0 → C none)
    (f1b : ∀ row p1, readO b 0 = (row, p1, 0) → p1 ≤ b.length → b.length < p1 + 2 → C none)
    (f2a : ∀ row p1 (f g : UInt8) ql0 p2 er, readO b 0 = (row, p1, 0) → p1 + 2 ≤ b.length → b[p1]? = some f → b[p1 + 1]? = some g → g.toNat ≠ 0 → readO b ((p1 + 2 : Nat) : Int) = (ql0, p2, er) → er ≠ 0 → C none)
    (f2b : ∀ row p1 (f g : UInt8) qual p2, readO b 0 = (row, p1, 0) → p1 + 2 ≤ b.length → b[p1]? = some f → b[p1 + 1]? = some g → g.toNat ≠ 0 → readO b ((p1 + 2 : Nat) : Int) = (qual, p2, 0) → p2 ≤ b.length → b.length ≤ p2 → C none)
    (fP : ∀ row p1 (f g : UInt8) qual p2, readO b 0 = (row, p1, 0) → p1 + 2 ≤ b.length → b[p1]? = some f → b[p1 + 1]? = some g → g.toNat ≠ 0 → readO b ((p1 + 2 : Nat) : Int) = (qual, p2, 0) → p2 < b.length → C (parseN b row f.toNat qual (p2 + 1)))
    (fN : ∀ row p1 (f g : UInt8), readO b 0 = (row, p1, 0) → p1 + 2 ≤ b.length → b[p1]? = some f → b[p1 + 1]? = some g → g.toNat = 0 → C (parseN b row f.toNat [] (p1 + 2))) :
    C (parseE b) := by
  unfold parseE
  obtain ⟨row, p1, er, h0⟩ : ∃ row p1 er, readO b 0 = (row, p1, er) := ⟨_, _, _, rfl⟩
  rw [h0]
  simp only
  by_cases he : er = 0
  · subst he
    have hend := (readO_end b 0 (by rw [h0])).2.1
    rw [h0] at hend
    by_cases hl : b.length < p1 + 2
    · rw [if_pos (.inr hl)]
      exact f1b row p1 h0 hend hl
    · rw [if_neg (by rintro (h | h); exact h rfl; exact hl h)]
      obtain ⟨f, hf⟩ := get_of (b := b) (k := p1) (by omega)
      obtain ⟨g, hg⟩ := get_of (b := b) (k := p1 + 1) (by omega)
      rw [atB_of hf, atB_of hg]
      by_cases hg0 : g.toNat = 0
      · rw [if_neg (by simpa using hg0)]
        exact fN row p1 f g h0 (by omega) hf hg hg0
      · rw [if_pos hg0]
        unfold parseQ
        obtain ⟨qual, p2, er, h2⟩ : ∃ qual p2 er, readO b ((p1 + 2 : Nat) : Int) = (qual, p2, er) := ⟨_, _, _, rfl⟩
        rw [h2]
        simp only
        by_cases he : er = 0
        · subst he
          have hend2 := (readO_end b ((p1 + 2 : Nat) : Int) (by rw [h2])).2.1
          rw [h2] at hend2
          by_cases hl2 : b.length ≤ p2
          · rw [if_pos (.inr hl2)]
            exact f2b row p1 f g qual p2 h0 (by omega) hf hg hg0 h2 hend2 hl2
          · rw [if_neg (by rintro (h | h); exact h rfl; exact hl2 h)]
            exact fP row p1 f g qual p2 h0 (by omega) hf hg hg0 h2 (by omega)
        · rw [if_pos (.inl he)]
          exact f2a row p1 f g qual p2 er h0 (by omega) hf hg hg0 h2 he
  · rw [if_pos (.inl he)]
    exact f1a row p1 er h0 he
end Go.Proofs.YtmigjipfomfacaaDoor
namespace Go.Proofs.YtmigjipfomfacaaDoor
open Go.RowKit
def ParsePost (o : Option (Ent × Nat)) (w : World) (r : Ending) (w' : World) : Prop := match o with
  | none => NoPost w r w'
  | some (e, _) => EntPost (fun v => .tuple #[v, .bool true]) e w r w'
theorem parse_any (b : List UInt8) (A : Option Addr) (n c : Nat) (w : World) (hs : Sl w A n c b) (hn : n ≤ 140737488355000) :
    Calls Tryd.prog 96 #[.slice A n c] w (ParsePost (parseE b) w) := by
  have hl := hs.len
  refine parse_cases b (C := fun o => Calls Tryd.prog 96 #[.slice A n c] w (ParsePost o w)) ?_ ?_ ?_ ?_ ?_ ?_
  · intro rw0 p1 er h0 he; exact pa_N_f1a b A n c w rw0 p1 er hs hn h0 he
  · intro row p1 h0 h1 h2; exact pa_N_f1b b A n c w row p1 hs hn h0 (by omega) (by omega)
  · intro row p1 f g ql0 p2 er h0 h1 hf hg hg0 h2 he; exact pa_P_f2a b A n c w row p1 f g ql0 p2 er hs hn h0 (by omega) hf hg hg0 h2 he
  · intro row p1 f g qual p2 h0 h1 hf hg hg0 h2 h3 h4; exact pa_P_f2b b A n c w row p1 f g qual p2 hs hn h0 (by omega) hf hg hg0 h2 (by omega)
  · intro row p1 f g qual p2 h0 h1 hf hg hg0 h2 h3
    refine parseN_cases b row f.toNat qual (p2 + 1) (C := fun o => Calls Tryd.prog 96 #[.slice A n c] w (ParsePost o w)) ?_ ?_ ?_ ?_
    · intro t p3 er h3' he; exact pa_P_f3 b A n c w row p1 f g qual p2 t p3 er hs hn h0 (by omega) hf hg hg0 h2 (by omega) h3' he
    · intro t p3 s p4 er h3' h4 he; exact pa_P_f4a b A n c w row p1 f g qual p2 t p3 s p4 er hs hn h0 (by omega) hf hg hg0 h2 (by omega) h3' h4 he
    · intro t p3 s p4 h3' h4 h5 h6; exact pa_P_f4b b A n c w row p1 f g qual p2 t p3 s p4 hs hn h0 (by omega) hf hg hg0 h2 (by omega) h3' h4 (by omega)
    · intro t p3 s p4 k h3' h4 h5 hk; exact pa_P_ok b A n c w row p1 f g qual p2 t p3 s p4 k hs hn h0 (by omega) hf hg hg0 h2 (by omega) h3' h4 (by omega) hk
  · intro row p1 f g h0 h1 hf hg hg0
    refine parseN_cases b row f.toNat [] (p1 + 2) (C := fun o => Calls Tryd.prog 96 #[.slice A n c] w (ParsePost o w)) ?_ ?_ ?_ ?_
    · intro t p3 er h3' he; exact pa_N_f3 b A n c w row p1 f g t p3 er hs hn h0 (by omega) hf hg hg0 h3' he
    · intro t p3 s p4 er h3' h4 he; exact pa_N_f4a b A n c w row p1 f g t p3 s p4 er hs hn h0 (by omega) hf hg hg0 h3' h4 he
    · intro t p3 s p4 h3' h4 h5 h6; exact pa_N_f4b b A n c w row p1 f g t p3 s p4 hs hn h0 (by omega) hf hg hg0 h3' h4 (by omega)
    · intro t p3 s p4 k h3' h4 h5 hk; exact pa_N_ok b A n c w row p1 f g t p3 s p4 k hs hn h0 (by omega) hf hg hg0 h3' h4 (by omega) hk
theorem EntPost.cast {mk mk' : Value → Value} {e e' : Ent} {w : World} {r : Ending} {w' : World} (h : EntPost mk e w r w') (he : e = e') (hm : mk = mk') : EntPost mk' e' w r w' := by subst he; subst hm; exact h
end Go.Proofs.YtmigjipfomfacaaDoor
namespace Go.Proofs.YtmigjipfomfacaaDoor
open Go.RowKit
set_option maxRecDepth 100000 in
set_option maxHeartbeats 2000000 in
theorem pk_none (b : List UInt8) (A : Option Addr) (n c : Nat) (w : World) (hs : Sl w A n c b) (hn : n ≤ 140737488355000) (hp : parseE b = none) :
    Calls Tryd.prog 82 #[.slice A n c] w (EntPost (fun v => .tuple #[v, .int .i64 27]) noEnt w) := by
  have HS : Hid (∀ x, Below w.heap.size w x → Sl x A n c b) := Lib.hid fun x h => hs.later h
  have HX0 := Lib.hid (Bt.of (T := 5) (Bxs.one w 37 #[.slice none 0 0, .int .i64 0, .slice none 0 0, .int .i64 0, .int .i64 0, .int .i64 0, .slice none 0 0]))
  have HP := Lib.hid hp
  clear hs hp
  go_enter Tryd.func82, Tryd.ntmps82
  go_upto_region 3 with (go_at_call 96; go_must (refine (parse_any b A n c _ (HS.out _ HX0.out.box.up) hn).mono ?_); rw [HP.out]; rintro e x1 ⟨⟨A1, n1, c1, f, A2, n2, c2, t, s, k, rfl⟩, hb1⟩; have HX1 := Lib.hid (HX0.out.later hb1); clear hb1; have z0 := HX1.out.box.c0 (i := 0) (v := .slice none 0 0) rfl rfl; have z1 := HX1.out.box.c0 (i := 1) (v := .int .i64 0) rfl rfl; have z2 := HX1.out.box.c0 (i := 2) (v := .slice none 0 0) rfl rfl; have z3 := HX1.out.box.c0 (i := 3) (v := .int .i64 0) rfl rfl; have z4 := HX1.out.box.c0 (i := 4) (v := .int .i64 0) rfl rfl; have z5 := HX1.out.box.c0 (i := 5) (v := .int .i64 0) rfl rfl; have z6 := HX1.out.box.c0 (i := 6) (v := .slice none 0 0) rfl rfl; have fz := HX1.out.box.f0 rfl; have hlt : w.heap.size < x1.heap.size := HX1.out.box.size)
  have HX2 := Lib.hid (HX1.out.alloc (.cells #[.slice A1 n1 c1, .int .i64 f, .slice A2 n2 c2, .int .i64 t, .int .i64 s, .int .i64 k, .slice none 0 0] 37))
  clear HX1 z0 z1 z2 z3 z4 z5 z6 fz hlt
  generalize x1.alloc (.cells #[.slice A1 n1 c1, .int .i64 f, .slice A2 n2 c2, .int .i64 t, .int .i64 s, .int .i64 k, .slice none 0 0] 37) = x2 at HX2 ⊢
  have z0 := HX2.out.box.c0 (i := 0) (v := .slice none 0 0) rfl rfl; have z1 := HX2.out.box.c0 (i := 1) (v := .int .i64 0) rfl rfl; have z2 := HX2.out.box.c0 (i := 2) (v := .slice none 0 0) rfl rfl; have z3 := HX2.out.box.c0 (i := 3) (v := .int .i64 0) rfl rfl; have z4 := HX2.out.box.c0 (i := 4) (v := .int .i64 0) rfl rfl; have z5 := HX2.out.box.c0 (i := 5) (v := .int .i64 0) rfl rfl; have z6 := HX2.out.box.c0 (i := 6) (v := .slice none 0 0) rfl rfl; have fz := HX2.out.box.f0 rfl; have hlt : w.heap.size < x2.heap.size := HX2.out.box.size
  go_wp2_with fail
  (try simp only [Exit.inBlock, Exit.then])
  have HR := Lib.hid (HX2.out.fill7 rfl (.slice none 0 0) (.int .i64 0) (.slice none 0 0) (.int .i64 0) (.int .i64 0) (.int .i64 0) (.slice none 0 0))
  refine bodyPost_ret (results_box1 rfl _ _ w.heap.size _ rfl (HR.out.box.cells0 rfl) (by kernel_rfl) (by kernel_rfl)) rfl ?_
  exact ent_none (mk := fun v => .tuple #[v, .int .i64 27]) HR.out.box.up
set_option maxRecDepth 100000 in
set_option maxHeartbeats 2000000 in
theorem pk_A (b : List UInt8) (A : Option Addr) (n c : Nat) (w : World) (hs : Sl w A n c b) (hn : n ≤ 140737488355000) (E : Ent) (p : Nat) (hp : parseE b = some (E, p)) (K : List UInt8) (z : Int) (hz : z ≠ 0) (hk : KeyE E = (K, z)) :
    Calls Tryd.prog 82 #[.slice A n c] w (EntPost (fun v => .tuple #[v, .int .i64 27]) noEnt w) := by
  have HS : Hid (∀ x, Below w.heap.size w x → Sl x A n c b) := Lib.hid fun x h => hs.later h
  have HX0 := Lib.hid (Bt.of (T := 5) (Bxs.one w 37 #[.slice none 0 0, .int .i64 0, .slice none 0 0, .int .i64 0, .int .i64 0, .int .i64 0, .slice none 0 0]))
  have HP := Lib.hid hp
  have HK := Lib.hid hk
  have hd : (z != 0) = true := by rw [bne_iff_ne]; exact hz
  clear hs hp hk hz
  go_enter Tryd.func82, Tryd.ntmps82
  go_wp2_with (first
    | (go_at_call 96; go_must (refine (parse_any b A n c _ (HS.out _ HX0.out.box.up) hn).mono ?_); rw [HP.out]; rintro e x1 ⟨A1, c1, A2, c2, D, q, rfl, hr1, hb1⟩; have HX1 := Lib.hid (HX0.out.freshR hb1 hr1); clear hb1 hr1)
    | (go_at_call 18; go_must (refine (key_any E A1 _ c1 A2 _ c2 D _ q _ ⟨(HX1.out.alloc (.cells #[.slice A1 E.row.length c1, .int .i64 E.fam, .slice A2 E.qual.length c2, .int .i64 E.ts, .int .i64 E.seq, .int .i64 E.kind, .slice D E.val.length q] 37)).rows.sl (i := 0) rfl, (HX1.out.alloc (.cells #[.slice A1 E.row.length c1, .int .i64 E.fam, .slice A2 E.qual.length c2, .int .i64 E.ts, .int .i64 E.seq, .int .i64 E.kind, .slice D E.val.length q] 37)).rows.sl (i := 1) rfl, (HX1.out.alloc (.cells #[.slice A1 E.row.length c1, .int .i64 E.fam, .slice A2 E.qual.length c2, .int .i64 E.ts, .int .i64 E.seq, .int .i64 E.kind, .slice D E.val.length q] 37)).rows.sl (i := 2) rfl⟩).mono ?_); rw [HK.out]; rintro e x2 hp; obtain ⟨A5, c5, rfl, hS5, hO5, hb5⟩ := hp.at_ (n := K.length) rfl rfl; have HX2 := Lib.hid ((HX1.out.alloc (.cells #[.slice A1 E.row.length c1, .int .i64 E.fam, .slice A2 E.qual.length c2, .int .i64 E.ts, .int .i64 E.seq, .int .i64 E.kind, .slice D E.val.length q] 37)).fresh hb5 hO5); have HY2 := Lib.hid ((Bx.new x1 #[.slice A1 E.row.length c1, .int .i64 E.fam, .slice A2 E.qual.length c2, .int .i64 E.ts, .int .i64 E.seq, .int .i64 E.kind, .slice D E.val.length q] 37).later hb5); have HS5 := Lib.hid hS5; clear hb5 hp hO5 hS5; have z0 := HX2.out.box.c0 (i := 0) (v := .slice none 0 0) rfl rfl; have z1 := HX2.out.box.c0 (i := 1) (v := .int .i64 0) rfl rfl; have z2 := HX2.out.box.c0 (i := 2) (v := .slice none 0 0) rfl rfl; have z3 := HX2.out.box.c0 (i := 3) (v := .int .i64 0) rfl rfl; have z4 := HX2.out.box.c0 (i := 4) (v := .int .i64 0) rfl rfl; have z5 := HX2.out.box.c0 (i := 5) (v := .int .i64 0) rfl rfl; have z6 := HX2.out.box.c0 (i := 6) (v := .slice none 0 0) rfl rfl; have fz := HX2.out.box.f0 rfl; have hlt : w.heap.size < x2.heap.size := HX2.out.box.size; have y0 := HY2.out.cell (i := 0) (v := .slice A1 E.row.length c1) rfl; have y1 := HY2.out.cell (i := 1) (v := .int .i64 E.fam) rfl; have y2 := HY2.out.cell (i := 2) (v := .slice A2 E.qual.length c2) rfl; have y3 := HY2.out.cell (i := 3) (v := .int .i64 E.ts) rfl; have y4 := HY2.out.cell (i := 4) (v := .int .i64 E.seq) rfl; have y5 := HY2.out.cell (i := 5) (v := .int .i64 E.kind) rfl; have y6 := HY2.out.cell (i := 6) (v := .slice D E.val.length q) rfl))
  (try simp only [Exit.inBlock, Exit.then])
  have HR := Lib.hid (HX2.out.fill7 rfl (.slice none 0 0) (.int .i64 0) (.slice none 0 0) (.int .i64 0) (.int .i64 0) (.int .i64 0) (.slice none 0 0))
  refine bodyPost_ret (results_box1 rfl _ _ w.heap.size _ rfl (HR.out.box.cells0 rfl) (by kernel_rfl) (by kernel_rfl)) rfl ?_
  exact ent_none (mk := fun v => .tuple #[v, .int .i64 27]) HR.out.box.up
set_option maxRecDepth 100000 in
set_option maxHeartbeats 2000000 in
theorem pk_B (b : List UInt8) (A : Option Addr) (n c : Nat) (w : World) (hs : Sl w A n c b) (hn : n ≤ 140737488355000) (E : Ent) (p : Nat) (hp : parseE b = some (E, p)) (K : List UInt8) (hk : KeyE E = (K, 0)) (hkb : (K == b) = false) :
    Calls Tryd.prog 82 #[.slice A n c] w (EntPost (fun v => .tuple #[v, .int .i64 27]) noEnt w) := by
  have HS : Hid (∀ x, Below w.heap.size w x → Sl x A n c b) := Lib.hid fun x h => hs.later h
  have HX0 := Lib.hid (Bt.of (T := 5) (Bxs.one w 37 #[.slice none 0 0, .int .i64 0, .slice none 0 0, .int .i64 0, .int .i64 0, .int .i64 0, .slice none 0 0]))
  have HP := Lib.hid hp
  have HK := Lib.hid hk
  have HKB := Lib.hid hkb
  clear hs hp hk hkb
  go_enter Tryd.func82, Tryd.ntmps82
  go_wp2_with (first
    | (go_at_call 96; go_must (refine (parse_any b A n c _ (HS.out _ HX0.out.box.up) hn).mono ?_); rw [HP.out]; rintro e x1 ⟨A1, c1, A2, c2, D, q, rfl, hr1, hb1⟩; have HX1 := Lib.hid (HX0.out.freshR hb1 hr1); clear hb1 hr1)
    | (go_at_call 18; go_must (refine (key_any E A1 _ c1 A2 _ c2 D _ q _ ⟨(HX1.out.alloc (.cells #[.slice A1 E.row.length c1, .int .i64 E.fam, .slice A2 E.qual.length c2, .int .i64 E.ts, .int .i64 E.seq, .int .i64 E.kind, .slice D E.val.length q] 37)).rows.sl (i := 0) rfl, (HX1.out.alloc (.cells #[.slice A1 E.row.length c1, .int .i64 E.fam, .slice A2 E.qual.length c2, .int .i64 E.ts, .int .i64 E.seq, .int .i64 E.kind, .slice D E.val.length q] 37)).rows.sl (i := 1) rfl, (HX1.out.alloc (.cells #[.slice A1 E.row.length c1, .int .i64 E.fam, .slice A2 E.qual.length c2, .int .i64 E.ts, .int .i64 E.seq, .int .i64 E.kind, .slice D E.val.length q] 37)).rows.sl (i := 2) rfl⟩).mono ?_); rw [HK.out]; rintro e x2 hp; obtain ⟨A5, c5, rfl, hS5, hO5, hb5⟩ := hp.at_ (n := K.length) rfl rfl; have HX2 := Lib.hid ((HX1.out.alloc (.cells #[.slice A1 E.row.length c1, .int .i64 E.fam, .slice A2 E.qual.length c2, .int .i64 E.ts, .int .i64 E.seq, .int .i64 E.kind, .slice D E.val.length q] 37)).fresh hb5 hO5); have HY2 := Lib.hid ((Bx.new x1 #[.slice A1 E.row.length c1, .int .i64 E.fam, .slice A2 E.qual.length c2, .int .i64 E.ts, .int .i64 E.seq, .int .i64 E.kind, .slice D E.val.length q] 37).later hb5); have HS5 := Lib.hid hS5; clear hb5 hp hO5 hS5; have z0 := HX2.out.box.c0 (i := 0) (v := .slice none 0 0) rfl rfl; have z1 := HX2.out.box.c0 (i := 1) (v := .int .i64 0) rfl rfl; have z2 := HX2.out.box.c0 (i := 2) (v := .slice none 0 0) rfl rfl; have z3 := HX2.out.box.c0 (i := 3) (v := .int .i64 0) rfl rfl; have z4 := HX2.out.box.c0 (i := 4) (v := .int .i64 0) rfl rfl; have z5 := HX2.out.box.c0 (i := 5) (v := .int .i64 0) rfl rfl; have z6 := HX2.out.box.c0 (i := 6) (v := .slice none 0 0) rfl rfl; have fz := HX2.out.box.f0 rfl; have hlt : w.heap.size < x2.heap.size := HX2.out.box.size; have y0 := HY2.out.cell (i := 0) (v := .slice A1 E.row.length c1) rfl; have y1 := HY2.out.cell (i := 1) (v := .int .i64 E.fam) rfl; have y2 := HY2.out.cell (i := 2) (v := .slice A2 E.qual.length c2) rfl; have y3 := HY2.out.cell (i := 3) (v := .int .i64 E.ts) rfl; have y4 := HY2.out.cell (i := 4) (v := .int .i64 E.seq) rfl; have y5 := HY2.out.cell (i := 5) (v := .int .i64 E.kind) rfl; have y6 := HY2.out.cell (i := 6) (v := .slice D E.val.length q) rfl)
    | (go_at_call 46; go_must (refine (equal_any K b A5 A K.length c5 n c _ HS5.out.rb (HS.out _ HX2.out.box.up).rb).mono ?_); rw [HKB.out]; rintro e x3 ⟨rfl, rfl⟩))
  (try simp only [Exit.inBlock, Exit.then])
  have HR := Lib.hid (HX2.out.fill7 rfl (.slice none 0 0) (.int .i64 0) (.slice none 0 0) (.int .i64 0) (.int .i64 0) (.int .i64 0) (.slice none 0 0))
  refine bodyPost_ret (results_box1 rfl _ _ w.heap.size _ rfl (HR.out.box.cells0 rfl) (by kernel_rfl) (by kernel_rfl)) rfl ?_
  exact ent_none (mk := fun v => .tuple #[v, .int .i64 27]) HR.out.box.up
set_option maxRecDepth 100000 in
set_option maxHeartbeats 2000000 in
theorem pk_C (b : List UInt8) (A : Option Addr) (n c : Nat) (w : World) (hs : Sl w A n c b) (hn : n ≤ 140737488355000) (E : Ent) (p : Nat) (hp : parseE b = some (E, p)) (K : List UInt8) (hk : KeyE E = (K, 0)) (hkb : (K == b) = true) :
    Calls Tryd.prog 82 #[.slice A n c] w (EntPost (fun v => .tuple #[v, .int .i64 0]) E w) := by
  have HS : Hid (∀ x, Below w.heap.size w x → Sl x A n c b) := Lib.hid fun x h => hs.later h
  have HX0 := Lib.hid (Bt.of (T := 5) (Bxs.one w 37 #[.slice none 0 0, .int .i64 0, .slice none 0 0, .int .i64 0, .int .i64 0, .int .i64 0, .slice none 0 0]))
  have HP := Lib.hid hp
  have HK := Lib.hid hk
  have HKB := Lib.hid hkb
  clear hs hp hk hkb
  go_enter Tryd.func82, Tryd.ntmps82
  go_wp2_with (first
    | (go_at_call 96; go_must (refine (parse_any b A n c _ (HS.out _ HX0.out.box.up) hn).mono ?_); rw [HP.out]; rintro e x1 ⟨A1, c1, A2, c2, D, q, rfl, hr1, hb1⟩; have HX1 := Lib.hid (HX0.out.freshR hb1 hr1); clear hb1 hr1)
    | (go_at_call 18; go_must (refine (key_any E A1 _ c1 A2 _ c2 D _ q _ ⟨(HX1.out.alloc (.cells #[.slice A1 E.row.length c1, .int .i64 E.fam, .slice A2 E.qual.length c2, .int .i64 E.ts, .int .i64 E.seq, .int .i64 E.kind, .slice D E.val.length q] 37)).rows.sl (i := 0) rfl, (HX1.out.alloc (.cells #[.slice A1 E.row.length c1, .int .i64 E.fam, .slice A2 E.qual.length c2, .int .i64 E.ts, .int .i64 E.seq, .int .i64 E.kind, .slice D E.val.length q] 37)).rows.sl (i := 1) rfl, (HX1.out.alloc (.cells #[.slice A1 E.row.length c1, .int .i64 E.fam, .slice A2 E.qual.length c2, .int .i64 E.ts, .int .i64 E.seq, .int .i64 E.kind, .slice D E.val.length q] 37)).rows.sl (i := 2) rfl⟩).mono ?_); rw [HK.out]; rintro e x2 hp; obtain ⟨A5, c5, rfl, hS5, hO5, hb5⟩ := hp.at_ (n := K.length) rfl rfl; have HX2 := Lib.hid ((HX1.out.alloc (.cells #[.slice A1 E.row.length c1, .int .i64 E.fam, .slice A2 E.qual.length c2, .int .i64 E.ts, .int .i64 E.seq, .int .i64 E.kind, .slice D E.val.length q] 37)).fresh hb5 hO5); have HY2 := Lib.hid ((Bx.new x1 #[.slice A1 E.row.length c1, .int .i64 E.fam, .slice A2 E.qual.length c2, .int .i64 E.ts, .int .i64 E.seq, .int .i64 E.kind, .slice D E.val.length q] 37).later hb5); have HS5 := Lib.hid hS5; clear hb5 hp hO5 hS5; have z0 := HX2.out.box.c0 (i := 0) (v := .slice none 0 0) rfl rfl; have z1 := HX2.out.box.c0 (i := 1) (v := .int .i64 0) rfl rfl; have z2 := HX2.out.box.c0 (i := 2) (v := .slice none 0 0) rfl rfl; have z3 := HX2.out.box.c0 (i := 3) (v := .int .i64 0) rfl rfl; have z4 := HX2.out.box.c0 (i := 4) (v := .int .i64 0) rfl rfl; have z5 := HX2.out.box.c0 (i := 5) (v := .int .i64 0) rfl rfl; have z6 := HX2.out.box.c0 (i := 6) (v := .slice none 0 0) rfl rfl; have fz := HX2.out.box.f0 rfl; have hlt : w.heap.size < x2.heap.size := HX2.out.box.size; have y0 := HY2.out.cell (i := 0) (v := .slice A1 E.row.length c1) rfl; have y1 := HY2.out.cell (i := 1) (v := .int .i64 E.fam) rfl; have y2 := HY2.out.cell (i := 2) (v := .slice A2 E.qual.length c2) rfl; have y3 := HY2.out.cell (i := 3) (v := .int .i64 E.ts) rfl; have y4 := HY2.out.cell (i := 4) (v := .int .i64 E.seq) rfl; have y5 := HY2.out.cell (i := 5) (v := .int .i64 E.kind) rfl; have y6 := HY2.out.cell (i := 6) (v := .slice D E.val.length q) rfl)
    | (go_at_call 46; go_must (refine (equal_any K b A5 A K.length c5 n c _ HS5.out.rb (HS.out _ HX2.out.box.up).rb).mono ?_); rw [HKB.out]; rintro e x3 ⟨rfl, rfl⟩))
  (try simp only [Exit.inBlock, Exit.then])
  have HR := Lib.hid (HX2.out.fill7 rfl (.slice A1 E.row.length c1) (.int .i64 E.fam) (.slice A2 E.qual.length c2) (.int .i64 E.ts) (.int .i64 E.seq) (.int .i64 E.kind) (.slice D E.val.length q))
  refine bodyPost_ret (results_box1 rfl _ _ w.heap.size _ rfl (HR.out.box.cells0 rfl) (by kernel_rfl) (by kernel_rfl)) rfl ?_
  exact ⟨A1, c1, A2, c2, D, q, rfl, rows_low (rows_pre HR.out.rows) (Nat.le_add_right _ _), HR.out.box.up⟩
theorem parsekey_any (b : List UInt8) (A : Option Addr) (n c : Nat) (w : World) (hs : Sl w A n c b) (hn : n ≤ 140737488355000) :
    Calls Tryd.prog 82 #[.slice A n c] w (EntPost (fun v => .tuple #[v, .int .i64 (ParseKeyE b).2]) (ParseKeyE b).1 w) := by
  unfold ParseKeyE
  cases hp : parseE b with
  | none => exact pk_none b A n c w hs hn hp
  | some x =>
    obtain ⟨E, p⟩ := x
    simp only [ParseKeyO]
    by_cases hc : checkE E = 0
    · have hk : KeyE E = (keyE E, 0) := by unfold KeyE; rw [if_pos hc]
      by_cases hb : keyE E = b
      · rw [if_pos ⟨hc, hb⟩]
        exact pk_C b A n c w hs hn E p hp _ hk (by rw [hb]; simp)
      · rw [if_neg (fun h => hb h.2)]
        exact pk_B b A n c w hs hn E p hp _ hk (by simpa using hb)
    · have hk : KeyE E = ([], checkE E) := by unfold KeyE; rw [if_neg hc]
      rw [if_neg (fun h => hc h.1)]
      exact pk_A b A n c w hs hn E p hp _ _ hc hk
end Go.Proofs.YtmigjipfomfacaaDoor
namespace Go.Proofs.YtmigjipfomfacaaDoor
open Go.RowKit
set_option maxRecDepth 100000 in
set_option maxHeartbeats 2000000 in
theorem rby_any (l : List UInt8) (A : Option Addr) (n c : Nat) (a most : Int) (w : World) (hs : Sl w A n c l) (hn : n ≤ 140737488355328) (hm : -9223372036854775808 ≤ most ∧ most < 9223372036854775808) :
    Calls Tryd.prog 80 #[.slice A n c, .int .i64 a, .int .i64 most] w (BytesPost3 5 (readBy l a most).1 ((readBy l a most).2.1 : Nat) ((readBy l a most).2.2 : Nat) w) := by
  have hl := hs.len
  have HR := Lib.hid hs.rb
  have HS := Lib.hid hs
  have HN : Hid (n ≤ 9223372036854775797) := Lib.hid (by omega)
  have hcap := hs.cap
  have hlim := hs.lim
  by_cases ho : outB n a = true
  · have HO := Lib.hid ho
    have H : Hid (BytesPost3 5 (readBy l a most).1 ((readBy l a most).2.1 : Nat) ((readBy l a most).2.2 : Nat) w (.returned (.tuple #[.slice none 0 0, .int .i64 0, .int .i64 1])) w) := Lib.hid (by
      unfold outB at ho
      simp at ho
      unfold readBy
      rw [if_pos (by omega)]
      exact bytes_none3 (Below.refl _ _))
    clear hs ho hl hcap hlim
    go_enter Tryd.func80, Tryd.ntmps80
    go_wp2_with (go_at_call 93; go_must (refine (outside_any A n c a _).mono ?_); rintro e w0 ⟨rfl, rfl⟩; rw [HO.out])
    go_ret3
    exact H.out
  have ho : outB n a = false := by simpa using ho
  have HO := Lib.hid ho
  have ha : 0 ≤ a ∧ a ≤ n := by unfold outB at ho; simp at ho; omega
  by_cases hmn : most < 0
  · have H : Hid (BytesPost3 5 (readBy l a most).1 ((readBy l a most).2.1 : Nat) ((readBy l a most).2.2 : Nat) w (.returned (.tuple #[.slice none 0 0, .int .i64 0, .int .i64 1])) w) := Lib.hid (by
      unfold readBy
      rw [if_pos (by omega)]
      exact bytes_none3 (Below.refl _ _))
    have hd : decide (most < 0) = true := decide_eq_true hmn
    clear hs ho hl hcap hlim ha hm hmn
    go_enter Tryd.func80, Tryd.ntmps80
    go_wp2_with (go_at_call 93; go_must (refine (outside_any A n c a _).mono ?_); rintro e w0 ⟨rfl, rfl⟩; rw [HO.out])
    go_ret3
    exact H.out
  have hd : decide (most < 0) = false := decide_eq_false hmn
  obtain ⟨M, rfl⟩ : ∃ M : Nat, most = (M : Int) := ⟨most.toNat, by omega⟩
  have hbase : readBy l a M = if (readU l a).2.2 ≠ 0 then ([], 0, (readU l a).2.2) else if (M : Int) < ((readU l a).1 : Int) then ([], 0, 13) else if l.length - (readU l a).2.1 < (readU l a).1 then ([], 0, 10) else (cutS l (readU l a).2.1 (readU l a).1, (readU l a).2.1 + (readU l a).1, 0) := by
    unfold readBy; rw [if_neg (by omega)]
  have hend := readU_end l a
  have hval := readU_val l a
  obtain ⟨v, hv⟩ : ∃ v, v = (readU l a).1 := ⟨_, rfl⟩
  obtain ⟨p, hp⟩ : ∃ p, p = (readU l a).2.1 := ⟨_, rfl⟩
  obtain ⟨k, hk⟩ : ∃ k, k = (readU l a).2.2 := ⟨_, rfl⟩
  rw [← hv, ← hp, ← hk] at hbase
  rw [← hp, ← hk] at hend
  rw [← hv] at hval
  have HU : Hid (RUPost (readU l a) w = RUPost (v, p, k) w) := Lib.hid (by rw [hv, hp, hk])
  clear hv hp hk hs ho ha
  by_cases hk0 : k = 0
  case neg =>
    have H : Hid (BytesPost3 5 (readBy l a M).1 ((readBy l a M).2.1 : Nat) ((readBy l a M).2.2 : Nat) w (.returned (.tuple #[.slice none 0 0, .int .i64 0, .int .i64 k])) w) := Lib.hid (by
      rw [hbase, if_pos hk0]
      exact bytes_none3 (Below.refl _ _))
    have hd2 : ((k : Int) != 0) = true := by rw [bne_iff_ne]; omega
    clear hbase hend hval hk0 hl hcap hlim hm hmn
    go_enter Tryd.func80, Tryd.ntmps80
    go_wp2_with (first
      | (go_at_call 93; go_must (refine (outside_any A n c a _).mono ?_); rintro e w0 ⟨rfl, rfl⟩; rw [HO.out])
      | (go_at_call 79; go_must (refine (ru_any l A n c a _ HN.out HR.out).mono ?_); rw [HU.out]; rintro e w1 ⟨rfl, rfl⟩))
    go_ret3
    exact H.out
  subst hk0
  obtain ⟨hpn, ha0, hap⟩ := hend rfl
  rw [if_neg (by simp)] at hbase
  have XV := Lib.hid hval
  by_cases hbig : M < v
  · have H : Hid (BytesPost3 5 (readBy l a M).1 ((readBy l a M).2.1 : Nat) ((readBy l a M).2.2 : Nat) w (.returned (.tuple #[.slice none 0 0, .int .i64 0, .int .i64 13])) w) := Lib.hid (by
      rw [hbase, if_pos (by omega)]
      exact bytes_none3 (Below.refl _ _))
    have hd3 : decide ((M : Int) < (v : Int)) = true := decide_eq_true (by omega)
    have hd4 : decide (M < v) = true := decide_eq_true hbig
    have hM0 : (0 : Int) ≤ (M : Int) := by omega
    clear hbase hval hl hcap hlim hmn hbig hpn hap hend
    go_enter Tryd.func80, Tryd.ntmps80
    go_wp2_with (first
      | (go_at_call 93; go_must (refine (outside_any A n c a _).mono ?_); rintro e w0 ⟨rfl, rfl⟩; rw [HO.out])
      | (go_at_call 79; go_must (refine (ru_any l A n c a _ HN.out HR.out).mono ?_); rw [HU.out]; rintro e w1 ⟨rfl, rfl⟩))
    go_ret3
    exact H.out
  rw [if_neg (by omega)] at hbase
  have hd3 : decide ((M : Int) < (v : Int)) = false := decide_eq_false (by omega)
  have hd4 : decide (M < v) = false := decide_eq_false hbig
  have hM0 : (0 : Int) ≤ (M : Int) := by omega
  by_cases htorn : n - p < v
  · have H : Hid (BytesPost3 5 (readBy l a M).1 ((readBy l a M).2.1 : Nat) ((readBy l a M).2.2 : Nat) w (.returned (.tuple #[.slice none 0 0, .int .i64 0, .int .i64 10])) w) := Lib.hid (by
      rw [hbase, if_pos (by omega)]
      exact bytes_none3 (Below.refl _ _))
    have hd5 : decide ((n : Int) - (p : Int) < (v : Int)) = true := decide_eq_true (by omega)
    have hpn2 : p ≤ n := by omega
    clear hbase hval hl hcap hlim hmn hbig hpn hap htorn hend
    go_enter Tryd.func80, Tryd.ntmps80
    go_wp2_with (first
      | (go_at_call 93; go_must (refine (outside_any A n c a _).mono ?_); rintro e w0 ⟨rfl, rfl⟩; rw [HO.out])
      | (go_at_call 79; go_must (refine (ru_any l A n c a _ HN.out HR.out).mono ?_); rw [HU.out]; rintro e w1 ⟨rfl, rfl⟩))
    go_ret3
    exact H.out
  rw [if_neg (by omega)] at hbase
  have hd5 : decide ((n : Int) - (p : Int) < (v : Int)) = false := decide_eq_false (by omega)
  have hpv : p + v ≤ n := by omega
  have HB := Lib.hid hbase
  have XS : Hid ((cutS l p v).length = v) := Lib.hid (by unfold cutS; rw [List.length_take, List.length_drop]; omega)
  by_cases hcp : c = p
  · have hv0 : v = 0 := by omega
    subst hv0
    subst hcp
    have HE : Hid (RB w w.heap.size A 0 (cutS l c 0)) := Lib.hid (by unfold cutS; rw [List.take_zero]; exact RB.nil)
    have k1 : c + 0 - c = 0 := by omega
    have k2 : c - c = 0 := by omega
    clear hbase hval hl hlim hmn hbig hpn hap htorn hend
    go_enter Tryd.func80, Tryd.ntmps80
    go_wp2_with (first
      | (go_at_call 93; go_must (refine (outside_any A n c a _).mono ?_); rintro e w0 ⟨rfl, rfl⟩; rw [HO.out])
      | (go_at_call 79; go_must (refine (ru_any l A n c a _ HN.out HR.out).mono ?_); rw [HU.out]; rintro e w1 ⟨rfl, rfl⟩)
      | (go_at_call 94; go_must (refine (clone_any (cutS l c 0) A 0 0 _ (by omega) (fun _ => rfl) HE.out).mono ?_); rintro e w2 ⟨A2, c2, rfl, hO2, hb2⟩))
    go_ret3
    rw [HB.out]
    exact ⟨A2, c2, rfl, hO2, hb2⟩
  · have HE : Hid (RB w w.heap.size (A.map (·.add p)) v (cutS l p v)) := Lib.hid (by
      have := (HS.out.rb.drop (k := p) (cap := c) (by omega) hcap).take (m := v) (by omega)
      rwa [if_neg hcp] at this)
    have HA1 : Hid (A.map (·.add p) = none → c - p = 0) := Lib.hid fun h => by cases A with
      | none => have := HS.out.nil rfl; omega
      | some _ => cases h
    have k1 : p + v - p = v := by omega
    have hvb : v ≤ 140737488355328 := by omega
    clear hbase hval hl hlim hmn hbig hpn hap htorn hend
    go_enter Tryd.func80, Tryd.ntmps80
    go_wp2_with (first
      | (go_at_call 93; go_must (refine (outside_any A n c a _).mono ?_); rintro e w0 ⟨rfl, rfl⟩; rw [HO.out])
      | (go_at_call 79; go_must (refine (ru_any l A n c a _ HN.out HR.out).mono ?_); rw [HU.out]; rintro e w1 ⟨rfl, rfl⟩)
      | (go_at_call 94; go_must (refine (clone_any (cutS l p v) _ v (c - p) _ hvb HA1.out HE.out).mono ?_); rintro e w2 ⟨A2, c2, rfl, hO2, hb2⟩))
    go_ret3
    rw [HB.out]
    refine ⟨A2, c2, ?_, hO2, hb2⟩
    rw [show ((p + v : Nat) : Int) = (p : Int) + v from by omega]; rfl
end Go.Proofs.YtmigjipfomfacaaDoor
namespace Go.Proofs.YtmigjipfomfacaaDoor
open Go.RowKit
end Go.Proofs.YtmigjipfomfacaaDoor
namespace Go.Proofs.YtmigjipfomfacaaDoor
open Go.RowKit
set_option maxRecDepth 100000 in
set_option maxHeartbeats 1000000 in
theorem rOut_any (n lo hi : Int) (w : World) : Calls Tryd.prog 76 #[.int .i64 n, .int .i64 lo, .int .i64 hi] w fun e w' => e = .returned (.bool (outI n lo hi)) ∧ w = w' := by
  unfold outI
  by_cases h : n < lo
  · have hd : decide (n < lo) = true := decide_eq_true h
    go_enter Tryd.func76, Tryd.ntmps76
    go_wp2
    go_ret
    exact ⟨by simp [hd], rfl⟩
  · have hd : decide (n < lo) = false := decide_eq_false h
    go_enter Tryd.func76, Tryd.ntmps76
    go_wp2
    go_ret
    exact ⟨by simp, rfl⟩
set_option maxRecDepth 100000 in
set_option maxHeartbeats 4000000 in
theorem rCheck_any (A : Option Addr) (n c : Nat) (f : Int) (B : Option Addr) (m d : Nat) (t s k : Int) (D : Option Addr) (v q : Nat) (w : World) :
    Calls Tryd.prog 42 #[.agg #[.slice A n c, .int .i64 f, .slice B m d, .int .i64 t, .int .i64 s, .int .i64 k, .slice D v q]] w fun e w' => e = .returned (.int .i64 (checkN n f m t s k v)) ∧ Below w.heap.size w w' := by
  have HB : Hid (∀ o, Below w.heap.size w (w.alloc o)) := Lib.hid fun o => (Below.refl _ w).alloc (Nat.le_refl _) o
  go_enter Tryd.func42, Tryd.ntmps42
  by_cases h0 : outI n 1 256 = true
  · have o0 := Lib.hid (outI_pos h0)
    go_wp2_with (go_at_call 76; refine (rOut_any _ _ _ _).mono ?_; rintro e w' ⟨rfl, rfl⟩)
    go_ret
    refine ⟨?_, HB.out _⟩
    clear HB
    have HZ : checkN n f m t s k v = 20 := by
      simp only [hid_iff] at *
      unfold checkN
      (repeat' split) <;> first | rfl | omega
    rw [HZ]; rfl
  have p0 := Lib.hid (outI_no (outI_neg h0))
  replace h0 := outI_neg h0
  by_cases h1 : outI f 0 7 = true
  · have o1 := Lib.hid (outI_pos h1)
    go_wp2_with (go_at_call 76; refine (rOut_any _ _ _ _).mono ?_; rintro e w' ⟨rfl, rfl⟩)
    go_ret
    refine ⟨?_, HB.out _⟩
    clear HB
    have HZ : checkN n f m t s k v = 21 := by
      simp only [hid_iff] at *
      unfold checkN
      (repeat' split) <;> first | rfl | omega
    rw [HZ]; rfl
  have p1 := Lib.hid (outI_no (outI_neg h1))
  replace h1 := outI_neg h1
  by_cases h2 : 256 < m
  · have d1 : decide ((256 : Int) < (m : Int)) = true := decide_eq_true (by omega)
    have d1n : decide (256 < m) = true := decide_eq_true h2
    go_wp2_with (go_at_call 76; refine (rOut_any _ _ _ _).mono ?_; rintro e w' ⟨rfl, rfl⟩)
    go_ret
    refine ⟨?_, HB.out _⟩
    clear HB
    have HZ : checkN n f m t s k v = 22 := by
      simp only [hid_iff] at *
      unfold checkN
      (repeat' split) <;> first | rfl | omega
    rw [HZ]; rfl
  have da2 : decide ((256 : Int) < (m : Int)) = false := decide_eq_false (by omega)
  have db2 : decide (256 < m) = false := decide_eq_false h2
  by_cases k2 : k = 5
  · have e2 : (k == 5) = true := by simpa using k2
    replace k2 := Lib.hid k2
    by_cases l2 : 0 < m
    · have d1 : decide ((0 : Int) < (m : Int)) = true := decide_eq_true (by omega)
      have d1n : decide (0 < m) = true := decide_eq_true l2
      go_wp2_with (go_at_call 76; refine (rOut_any _ _ _ _).mono ?_; rintro e w' ⟨rfl, rfl⟩)
      go_ret
      refine ⟨?_, HB.out _⟩
      clear HB
      have HZ : checkN n f m t s k v = 22 := by
        simp only [hid_iff] at *
        unfold checkN
        (repeat' split) <;> first | rfl | omega
      rw [HZ]; rfl
    have dc2 : decide ((0 : Int) < (m : Int)) = false := decide_eq_false (by omega)
    have dd2 : decide (0 < m) = false := decide_eq_false l2
    by_cases h3 : outI t 1 1099511627776 = true
    · have o3 := Lib.hid (outI_pos h3)
      go_wp2_with (go_at_call 76; refine (rOut_any _ _ _ _).mono ?_; rintro e w' ⟨rfl, rfl⟩)
      go_ret
      refine ⟨?_, HB.out _⟩
      clear HB
      have HZ : checkN n f m t s k v = 23 := by
        simp only [hid_iff] at *
        unfold checkN
        (repeat' split) <;> first | rfl | omega
      rw [HZ]; rfl
    have p3 := Lib.hid (outI_no (outI_neg h3))
    replace h3 := outI_neg h3
    by_cases h4 : outI s 0 17592186044431 = true
    · have o4 := Lib.hid (outI_pos h4)
      go_wp2_with (go_at_call 76; refine (rOut_any _ _ _ _).mono ?_; rintro e w' ⟨rfl, rfl⟩)
      go_ret
      refine ⟨?_, HB.out _⟩
      clear HB
      have HZ : checkN n f m t s k v = 24 := by
        simp only [hid_iff] at *
        unfold checkN
        (repeat' split) <;> first | rfl | omega
      rw [HZ]; rfl
    have p4 := Lib.hid (outI_no (outI_neg h4))
    replace h4 := outI_neg h4
    by_cases h5 : outI k 1 5 = true
    · have o5 := Lib.hid (outI_pos h5)
      go_wp2_with (go_at_call 76; refine (rOut_any _ _ _ _).mono ?_; rintro e w' ⟨rfl, rfl⟩)
      go_ret
      refine ⟨?_, HB.out _⟩
      clear HB
      have HZ : checkN n f m t s k v = 25 := by
        simp only [hid_iff] at *
        unfold checkN
        (repeat' split) <;> first | rfl | omega
      rw [HZ]; rfl
    have p5 := Lib.hid (outI_no (outI_neg h5))
    replace h5 := outI_neg h5
    by_cases h6 : 4096 < v
    · have d1 : decide ((4096 : Int) < (v : Int)) = true := decide_eq_true (by omega)
      have d1n : decide (4096 < v) = true := decide_eq_true h6
      go_wp2_with (go_at_call 76; refine (rOut_any _ _ _ _).mono ?_; rintro e w' ⟨rfl, rfl⟩)
      go_ret
      refine ⟨?_, HB.out _⟩
      clear HB
      have HZ : checkN n f m t s k v = 26 := by
        simp only [hid_iff] at *
        unfold checkN
        (repeat' split) <;> first | rfl | omega
      rw [HZ]; rfl
    have da6 : decide ((4096 : Int) < (v : Int)) = false := decide_eq_false (by omega)
    have db6 : decide (4096 < v) = false := decide_eq_false h6
    by_cases k6 : ¬ k = 1
    · have e6 : (k != 1) = true := by simpa using k6
      replace k6 := Lib.hid k6
      by_cases l6 : 0 < v
      · have d1 : decide ((0 : Int) < (v : Int)) = true := decide_eq_true (by omega)
        have d1n : decide (0 < v) = true := decide_eq_true l6
        go_wp2_with (go_at_call 76; refine (rOut_any _ _ _ _).mono ?_; rintro e w' ⟨rfl, rfl⟩)
        go_ret
        refine ⟨?_, HB.out _⟩
        clear HB
        have HZ : checkN n f m t s k v = 26 := by
          simp only [hid_iff] at *
          unfold checkN
          (repeat' split) <;> first | rfl | omega
        rw [HZ]; rfl
      have dc6 : decide ((0 : Int) < (v : Int)) = false := decide_eq_false (by omega)
      have dd6 : decide (0 < v) = false := decide_eq_false l6
      go_wp2_with (go_at_call 76; refine (rOut_any _ _ _ _).mono ?_; rintro e w' ⟨rfl, rfl⟩)
      go_ret
      refine ⟨?_, HB.out _⟩
      clear HB
      have HZ : checkN n f m t s k v = 0 := by
        simp only [hid_iff] at *
        unfold checkN
        (repeat' split) <;> first | rfl | omega
      rw [HZ]; rfl
    have e6 : (k != 1) = false := by simpa using k6
    replace k6 := Lib.hid k6
    go_wp2_with (go_at_call 76; refine (rOut_any _ _ _ _).mono ?_; rintro e w' ⟨rfl, rfl⟩)
    go_ret
    refine ⟨?_, HB.out _⟩
    clear HB
    have HZ : checkN n f m t s k v = 0 := by
      simp only [hid_iff] at *
      unfold checkN
      (repeat' split) <;> first | rfl | omega
    rw [HZ]; rfl
  have e2 : (k == 5) = false := by simpa using k2
  replace k2 := Lib.hid k2
  by_cases h3 : outI t 1 1099511627776 = true
  · have o3 := Lib.hid (outI_pos h3)
    go_wp2_with (go_at_call 76; refine (rOut_any _ _ _ _).mono ?_; rintro e w' ⟨rfl, rfl⟩)
    go_ret
    refine ⟨?_, HB.out _⟩
    clear HB
    have HZ : checkN n f m t s k v = 23 := by
      simp only [hid_iff] at *
      unfold checkN
      (repeat' split) <;> first | rfl | omega
    rw [HZ]; rfl
  have p3 := Lib.hid (outI_no (outI_neg h3))
  replace h3 := outI_neg h3
  by_cases h4 : outI s 0 17592186044431 = true
  · have o4 := Lib.hid (outI_pos h4)
    go_wp2_with (go_at_call 76; refine (rOut_any _ _ _ _).mono ?_; rintro e w' ⟨rfl, rfl⟩)
    go_ret
    refine ⟨?_, HB.out _⟩
    clear HB
    have HZ : checkN n f m t s k v = 24 := by
      simp only [hid_iff] at *
      unfold checkN
      (repeat' split) <;> first | rfl | omega
    rw [HZ]; rfl
  have p4 := Lib.hid (outI_no (outI_neg h4))
  replace h4 := outI_neg h4
  by_cases h5 : outI k 1 5 = true
  · have o5 := Lib.hid (outI_pos h5)
    go_wp2_with (go_at_call 76; refine (rOut_any _ _ _ _).mono ?_; rintro e w' ⟨rfl, rfl⟩)
    go_ret
    refine ⟨?_, HB.out _⟩
    clear HB
    have HZ : checkN n f m t s k v = 25 := by
      simp only [hid_iff] at *
      unfold checkN
      (repeat' split) <;> first | rfl | omega
    rw [HZ]; rfl
  have p5 := Lib.hid (outI_no (outI_neg h5))
  replace h5 := outI_neg h5
  by_cases h6 : 4096 < v
  · have d1 : decide ((4096 : Int) < (v : Int)) = true := decide_eq_true (by omega)
    have d1n : decide (4096 < v) = true := decide_eq_true h6
    go_wp2_with (go_at_call 76; refine (rOut_any _ _ _ _).mono ?_; rintro e w' ⟨rfl, rfl⟩)
    go_ret
    refine ⟨?_, HB.out _⟩
    clear HB
    have HZ : checkN n f m t s k v = 26 := by
      simp only [hid_iff] at *
      unfold checkN
      (repeat' split) <;> first | rfl | omega
    rw [HZ]; rfl
  have da6 : decide ((4096 : Int) < (v : Int)) = false := decide_eq_false (by omega)
  have db6 : decide (4096 < v) = false := decide_eq_false h6
  by_cases k6 : ¬ k = 1
  · have e6 : (k != 1) = true := by simpa using k6
    replace k6 := Lib.hid k6
    by_cases l6 : 0 < v
    · have d1 : decide ((0 : Int) < (v : Int)) = true := decide_eq_true (by omega)
      have d1n : decide (0 < v) = true := decide_eq_true l6
      go_wp2_with (go_at_call 76; refine (rOut_any _ _ _ _).mono ?_; rintro e w' ⟨rfl, rfl⟩)
      go_ret
      refine ⟨?_, HB.out _⟩
      clear HB
      have HZ : checkN n f m t s k v = 26 := by
        simp only [hid_iff] at *
        unfold checkN
        (repeat' split) <;> first | rfl | omega
      rw [HZ]; rfl
    have dc6 : decide ((0 : Int) < (v : Int)) = false := decide_eq_false (by omega)
    have dd6 : decide (0 < v) = false := decide_eq_false l6
    go_wp2_with (go_at_call 76; refine (rOut_any _ _ _ _).mono ?_; rintro e w' ⟨rfl, rfl⟩)
    go_ret
    refine ⟨?_, HB.out _⟩
    clear HB
    have HZ : checkN n f m t s k v = 0 := by
      simp only [hid_iff] at *
      unfold checkN
      (repeat' split) <;> first | rfl | omega
    rw [HZ]; rfl
  have e6 : (k != 1) = false := by simpa using k6
  replace k6 := Lib.hid k6
  go_wp2_with (go_at_call 76; refine (rOut_any _ _ _ _).mono ?_; rintro e w' ⟨rfl, rfl⟩)
  go_ret
  refine ⟨?_, HB.out _⟩
  clear HB
  have HZ : checkN n f m t s k v = 0 := by
    simp only [hid_iff] at *
    unfold checkN
    (repeat' split) <;> first | rfl | omega
  rw [HZ]; rfl
end Go.Proofs.YtmigjipfomfacaaDoor
namespace Go.Proofs.YtmigjipfomfacaaDoor
open Go.RowKit
theorem Sl.cut {w : World} {A : Option Addr} {n c lo hi : Nat} {l : List UInt8} (h : Sl w A n c l) (h1 : lo ≤ hi) (h2 : hi ≤ n) (hc : lo < c) : Sl w (A.map (·.add lo)) (hi - lo) (c - lo) (cutS l lo (hi - lo)) := by
  have h3 := (h.drop (k := lo) (by omega) hc).take (m := hi - lo) (by omega)
  exact h3
theorem u8v_rem (V : Nat) : u8v (UInt8.ofNat (V % 128 + 128)) = .int .u8 (128 + (V : Int) % 128) := by
  unfold u8v
  rw [UInt8.toNat_ofNat', Nat.mod_eq_of_lt (by omega)]; congr 1; omega
set_option maxRecDepth 100000 in
set_option maxHeartbeats 1000000 in
theorem rUint_any (v : Nat) (w : World) (hv : v < 18446744073709551616) : Calls Tryd.prog 58 #[.int .u64 v] w (BytesPost 5 (uintB v) w) := by
  have HL := Lib.hid (uintB_ten hv)
  have HV := Lib.hid hv
  clear hv
  go_enter Tryd.func58, Tryd.ntmps58
  go_wp2
  go_loopw [0, 3] (fun x b wr => ∃ (V : Nat) (pre : List UInt8), V < 18446744073709551616 ∧ x = .int .u64 V ∧ Hid (pre ++ uintB V = uintB v) ∧ Hid (pre.length ≤ 10) ∧ wr.ownsRow w.heap.size 5 1 b pre.length (u8s pre) ∧ Hid (Below w.heap.size w wr)) (fun x _ _ => (intOf x).toNat)
  case atStart => exact ⟨v, [], HV.out, rfl, Lib.hid rfl, Lib.hid (by simp), own_nil _ _ _ _, Lib.hid (Below.refl _ _)⟩
  case round =>
    obtain ⟨V, pre, hV2, rfl, HP, HPL, hown, HB⟩ := hrel
    by_cases h : 128 ≤ V
    · have hd : decide ((127 : Int) < (V : Int)) = true := decide_eq_true (by omega)
      have hm1 : (V : Int) % 128 < 128 := by omega
      have hm0 : 0 ≤ (V : Int) % 128 := by omega
      have hm2 : (128 + (V : Int) % 128) % 256 = 128 + (V : Int) % 128 := by omega
      have H8 := Lib.hid (u8v_rem V)
      have HN : Hid ((pre ++ [UInt8.ofNat (V % 128 + 128)]) ++ uintB (V / 128) = uintB v) := Lib.hid (by rw [← HP.out, uintB_ge h]; simp)
      have HNL : Hid ((pre ++ [UInt8.ofNat (V % 128 + 128)]).length ≤ 10) := Lib.hid (by
        have := congrArg List.length HN.out
        rw [List.length_append] at this
        have := HL.out
        omega)
      obtain ⟨bv, hb⟩ : ∃ bv, bv = u3 := ⟨_, rfl⟩
      rw [← hb] at hown ⊢
      clear hb
      go_wp2_with (at_builtin; go_must (refine wpList_append_reads _ rfl (.tmp 6) (.tmp 11) rfl Tryd.u8s' w.heap.size bv pre.length (u8s pre) rfl (hown.alloc _) (wr.heap.size + 1) (some ⟨wr.heap.size, 0, none⟩) 1 1 (u8s [UInt8.ofNat (V % 128 + 128)]) rfl (by exact reads_lit wr _ [UInt8.ofNat (V % 128 + 128)] _ _ (by show _ = [u8v _]; rw [H8.out])) (u8s_one _) (by have := HPL.out; unfold maxLen; omega) (by have := HPL.out; omega) (by have := HB.out.size; simp; omega) ?_); intro v1 w1 hown1 hg1 hat1)
      have hB : w.heap.size ≤ (wr.alloc (.cells #[.int .u8 (128 + (V : Int) % 128)] 5)).heap.size := by have := HB.out.size; simp; omega
      have HB1 := Lib.hid (below_app (HB.out.alloc HB.out.size _) (hown.alloc _) hg1 hB (Nat.le_refl _))
      rw [← u8s_append] at hown1
      have hO1 : w1.ownsRow w.heap.size 5 1 v1 (pre ++ [UInt8.ofNat (V % 128 + 128)]).length (u8s (pre ++ [UInt8.ofNat (V % 128 + 128)])) := by
        rw [List.length_append]; exact hown1
      clear hown hown1 hg1 hat1 hB hm2
      go_roundw
      case rel => exact ⟨V / 128, _, by omega, by rw [Int.natCast_ediv]; rfl, HN, HNL, hO1, HB1⟩
      case measure => simp [intOf]; omega
    · have hd : decide ((127 : Int) < (V : Int)) = false := decide_eq_false (by omega)
      have hm : (V : Int) % 256 = (V : Int) := by omega
      have H8 : Hid (u8v (UInt8.ofNat V) = .int .u8 (V : Int)) := Lib.hid (by
        unfold u8v
        rw [UInt8.toNat_ofNat', Nat.mod_eq_of_lt (by omega)])
      have HN : Hid (pre ++ [UInt8.ofNat V] = uintB v) := Lib.hid (by rw [← HP.out, uintB_lt (by omega)])
      obtain ⟨bv, hb⟩ : ∃ bv, bv = u3 := ⟨_, rfl⟩
      rw [← hb] at hown ⊢
      clear hb
      go_wp2_with (at_builtin; go_must (refine wpList_append_reads _ rfl (.tmp 15) (.tmp 18) rfl Tryd.u8s' w.heap.size bv pre.length (u8s pre) rfl (hown.alloc _) (wr.heap.size + 1) (some ⟨wr.heap.size, 0, none⟩) 1 1 (u8s [UInt8.ofNat V]) rfl (by exact reads_lit wr _ [UInt8.ofNat V] _ _ (by show _ = [u8v _]; rw [H8.out])) (u8s_one _) (by have := HPL.out; unfold maxLen; omega) (by have := HPL.out; omega) (by have := HB.out.size; simp; omega) ?_); intro v1 w1 hown1 hg1 hat1)
      go_ret
      have hB : w.heap.size ≤ (wr.alloc (.cells #[.int .u8 (V : Int)] 5)).heap.size := by have := HB.out.size; simp; omega
      have HB1 := below_app (HB.out.alloc HB.out.size _) (hown.alloc _) hg1 hB (Nat.le_refl _)
      rw [← u8s_append, HN.out] at hown1
      exact bytes_post hown1 HB1
theorem rUint_of (v : Nat) (a : Int) (ha : a = (v : Int)) (w : World) (hv : v < 18446744073709551616) : Calls Tryd.prog 58 #[.int .u64 a] w (BytesPost 5 (uintB v) w) := by
  subst ha
  exact rUint_any v w hv
set_option maxRecDepth 100000 in
set_option maxHeartbeats 400000 in
theorem rBytes_any (l : List UInt8) (A : Option Addr) (n c : Nat) (w : World) (hn : n ≤ 140737488355318) (hr : RB w w.heap.size A n l) :
    Calls Tryd.prog 59 #[.slice A n c] w (BytesPost 5 (uintB l.length ++ l) w) := by
  have HR : Hid (∀ w', Below w.heap.size w w' → RB w' w'.heap.size A n l) := Lib.hid fun w' h => hr.later h
  have HL := Lib.hid hr.len
  have HU := Lib.hid (uintB_ten (v := n) (by omega))
  clear hr
  go_enter Tryd.func59, Tryd.ntmps59
  go_wp2_with (first
    | (go_at_call 58; go_must (refine (rUint_of n _ (by omega) _ (by omega)).mono ?_); rintro e w1 ⟨A1, c1, rfl, hO1, hb1⟩; have HB1 := Lib.hid hb1; have HO1 := Lib.hid hO1; clear hb1 hO1)
    | (at_builtin; go_must (refine wpList_append_reads _ rfl (.tmp 6) (.tmp 7) rfl Tryd.u8s' w.heap.size (.slice A1 (uintB n).length c1) (uintB n).length (u8s (uintB n)) rfl HO1.out _ A n c (u8s l) rfl (HR.out _ HB1.out) (u8s_one _) (by have := HU.out; unfold maxLen; omega) (by have := HU.out; omega) HB1.out.size ?_); intro v2 w2 hown2 hg2 hat2))
  go_ret
  rw [← u8s_append] at hown2
  rw [HL.out]
  exact bytes_post hown2 (below_app HB1.out HO1.out hg2 HB1.out.size (Nat.le_refl _))
theorem ref_mul (U x : Nat) (hU : U ≤ 72057594037927936) (hx : x < 128) : U * x < 9223372036854775808 := by
  have h1 : x ≤ 127 := by omega
  have := Nat.mul_le_mul hU h1
  omega
theorem ref_step (V U j x : Nat) (hj : j ≤ 8) (hU : U = 2 ^ (7 * j)) (hV : V < U) :
    IntKind.u64.wrap ((U : Int) * ((x : Int) % 128)) = ((U * (x % 128) : Nat) : Int) ∧ IntKind.u64.wrap ((V : Int) + ((U * (x % 128) : Nat) : Int)) = ((V + x % 128 * 2 ^ (7 * j) : Nat) : Int) ∧ IntKind.u64.wrap ((U : Int) * 128) = ((U * 128 : Nat) : Int) ∧ V + x % 128 * 2 ^ (7 * j) < U * 128 ∧ U * 128 = 2 ^ (7 * (j + 1)) := by
  have h1 := pow7_le hj
  rw [← hU] at h1
  have h2 : x % 128 < 128 := Nat.mod_lt _ (by decide)
  have h3 := ref_mul U (x % 128) h1 h2
  have e1 : (U : Int) * ((x : Int) % 128) = ((U * (x % 128) : Nat) : Int) := by rw [Int.natCast_mul, Int.natCast_emod]; rfl
  have e2 : x % 128 * 2 ^ (7 * j) = U * (x % 128) := by rw [← hU, Nat.mul_comm]
  rw [e1, e2]
  have h4 : U * (x % 128) ≤ U * 127 := Nat.mul_le_mul_left _ (by omega)
  refine ⟨?_, ?_, ?_, ?_, ?_⟩
  · rw [IntKind.wrap_u64]; omega
  · rw [IntKind.wrap_u64]; omega
  · rw [IntKind.wrap_u64]; omega
  · omega
  · rw [hU, pow7_step]; omega
theorem ref_last (V x : Nat) (hx : x ≤ 1) (hV : V < 9223372036854775808) :
    IntKind.u64.wrap ((9223372036854775808 : Int) * ((x : Int) % 128)) = ((9223372036854775808 * (x % 128) : Nat) : Int) ∧ IntKind.u64.wrap ((V : Int) + ((9223372036854775808 * (x % 128) : Nat) : Int)) = ((V + x % 128 * 2 ^ (7 * 9) : Nat) : Int) := by
  rw [show (2 : Nat) ^ (7 * 9) = 9223372036854775808 from by decide]
  constructor
  · rw [IntKind.wrap_u64]; omega
  · rw [IntKind.wrap_u64]; omega
end Go.Proofs.YtmigjipfomfacaaDoor
namespace Go.Proofs.YtmigjipfomfacaaDoor
open Go.RowKit
theorem rTo_len8 (v : Nat) : (risB v).length = 8 := rTo_len v 8
theorem own_lit (w : World) (C : Array Value) (e : TypeId) (base n size : Nat) (hb : base ≤ w.heap.size) (hm : n ≤ maxLen) (hs : C.size = n * size) : (w.alloc (.cells C e)).ownsRow base e size (.slice (some ⟨w.heap.size, 0, none⟩) n n) n C.toList :=
  ⟨by rw [Array.length_toList]; exact hs, .inr ⟨w.heap.size, n, C, rfl, hb, heap_alloc_new w _, Nat.le_refl _, hm, hs, by rw [← hs, ← Array.length_toList, List.take_length]⟩⟩
theorem OwnB.kept13 {T : TypeId} {base g : Nat} {w w' : World} {A : Option Addr} {c : Nat} {l : List UInt8} (h : OwnB T base w A c l) (hg : w.grownBy w' (some g)) (hlt : g < base) : OwnB T base w' A c l := by
  refine World.ownsRow.kept h hg ?_
  cases A with
  | none => exact .inl rfl
  | some a =>
    refine .inr fun e => ?_
    have := (World.ownsRow.lt h a.block rfl).1
    injection e with e
    omega
theorem Sl.over {w x y : World} {A : Option Addr} {n c g : Nat} {l : List UInt8} (h : Sl w A n c l) (hb : Below w.heap.size w x) (hg : x.grownBy y (some g)) (hle : w.heap.size ≤ g) : Sl y A n c l :=
  ⟨Reads.more (Reads.grown (h.rb.below hb) hg hb.size (fun _ e => by injection e with e; omega)) (Nat.le_trans hb.size hg.size), h.cap, h.lim, h.nil⟩
def wB (v : Nat) (l : List UInt8) : Nat → List UInt8
  | 0 => uintB v
  | 1 => risB (v / 2)
  | 2 => risB (9223372036854775807 - v / 2)
  | 3 => uintB l.length ++ l
  | 4 => ordB l
  | _ => frameB l
def wK : Nat → Int
  | 0 => 2
  | 1 => 6
  | 2 => 8
  | 3 => 4
  | 4 => 10
  | _ => 13
end Go.Proofs.YtmigjipfomfacaaDoor
namespace Go.Proofs.YtmigjipfomfacaaDoor
open Go.RowKit
def eB (v : Nat) : Nat → List UInt8
  | 0 => []
  | i + 1 => UInt8.ofNat (v / 256 ^ i) :: eB v i
theorem eB_len (v : Nat) : ∀ i, (eB v i).length = i
  | 0 => rfl
  | i + 1 => by show (eB v i).length + 1 = _; rw [eB_len v i]
theorem eB_ris (v : Nat) : eB v 8 = risB v := by simp [eB, risB, rTo, List.range_succ]
set_option maxRecDepth 100000 in
set_option maxHeartbeats 1000000 in
theorem eight_any (v : Nat) (w : World) (hv : v < 18446744073709551616) : Calls Tryd.prog 115 #[.int .u64 v] w (BytesPost 5 (risB v) w) := by
  go_enter Tryd.func115, Tryd.ntmps115
  go_wp2
  go_loopw [0, 3, 4] (fun x b i wr => ∃ (j V : Nat), j ≤ 8 ∧ i = .int .i64 j ∧ Hid (V = v / 256 ^ j) ∧ V < 18446744073709551616 ∧ x = .int .u64 V ∧ wr.ownsRow w.heap.size 5 1 b j (u8s (eB v j)) ∧ Hid (Below w.heap.size w wr)) (fun _ _ i _ => 8 - (intOf i).toNat)
  case atStart => exact ⟨0, v, by omega, rfl, Lib.hid (by simp), hv, rfl, own_nil _ _ _ _, Lib.hid (Below.refl _ _)⟩
  case round =>
    obtain ⟨j, V, hj, rfl, HV, hV, rfl, hown, HB⟩ := hrel
    by_cases hlt : j < 8
    case neg =>
      obtain rfl : j = 8 := by omega
      have hd : decide ((8 : Int) < 8) = false := by decide
      rw [eB_ris] at hown
      have HP := Lib.hid (bytes_post hown HB.out)
      clear hown
      go_wp2
      go_ret
      exact HP.out
    have hd : decide ((j : Int) < 8) = true := decide_eq_true (by omega)
    obtain ⟨A, c, hbv, hl1, hl2, _, hrl⟩ := own_slice hown
    subst hbv
    have hm0 : 0 ≤ (V : Int) % 256 := by omega
    have hm1 : (V : Int) % 256 < 256 := by omega
    have HR := Lib.hid hrl
    have hB : w.heap.size ≤ wr.heap.size := HB.out.size
    have HC : Hid (u8s [UInt8.ofNat V] = [.int .u8 ((V : Int) % 256)]) := Lib.hid (by show [u8v _] = _; rw [u8v_mod])
    have HO : Hid ((wr.alloc (.cells #[.int .u8 ((V : Int) % 256)] 5)).ownsRow w.heap.size 5 1 (.slice (some ⟨wr.heap.size, 0, none⟩) 1 1) 1 (u8s [UInt8.ofNat V])) := Lib.hid (by rw [HC.out]; exact own_lit wr #[.int .u8 ((V : Int) % 256)] 5 w.heap.size 1 1 hB (by decide) rfl)
    have HN : Hid (u8s [UInt8.ofNat V] ++ u8s (eB v j) = u8s (eB v (j + 1))) := Lib.hid (by rw [HV.out, ← u8s_append]; rfl)
    clear hown hrl hl1 hl2
    go_wp2_with (at_builtin; go_must (refine wpList_append_reads _ rfl (.tmp 12) (.tmp 13) rfl Tryd.u8s' w.heap.size (.slice (some ⟨wr.heap.size, 0, none⟩) 1 1) 1 (u8s [UInt8.ofNat V]) rfl HO.out wr.heap.size A j c (u8s (eB v j)) rfl (Reads.alloc HR.out (Nat.le_refl _) _) (u8s_one _) (by unfold maxLen; omega) (by omega) (by have := HB.out.size; simp; omega) ?_); intro v1 w1 hown1 hg1 hat1; have HB1 := Lib.hid (below_app (HB.out.alloc HB.out.size (.cells #[.int .u8 ((V : Int) % 256)] 5)) HO.out hg1 (by have := HB.out.size; simp; omega) (Nat.le_refl _)); rw [HN.out] at hown1; have HO1 := Lib.hid hown1; clear hown1 hg1 hat1)
    have HV2 : Hid (V / 256 = v / 256 ^ (j + 1)) := Lib.hid (by rw [HV.out, Nat.pow_succ, Nat.div_div_eq_div_mul])
    have hO1 : w1.ownsRow w.heap.size 5 1 v1 (j + 1) (u8s (eB v (j + 1))) := by
      have := HO1.out
      rw [Nat.add_comm 1 j] at this
      exact this
    clear HO1 hB
    go_roundw
    case rel => exact ⟨j + 1, V / 256, by omega, by go_num, HV2, by omega, by rw [Int.natCast_ediv]; rfl, hO1, HB1⟩
    case measure => simp [intOf]; omega
theorem eight_of (v : Nat) (a : Int) (ha : a = (v : Int)) (w : World) (hv : v < 18446744073709551616) : Calls Tryd.prog 115 #[.int .u64 a] w (BytesPost 5 (risB v) w) := by
  subst ha; exact eight_any v w hv
theorem big_bound (l : List UInt8) (_m : Nat) (h : l.length ≤ 7) : big l < 72057594037927936 := by
  have h1 := big_lt l
  have h2 := Nat.pow_le_pow_right (show 0 < 256 by decide) h
  have h3 : (256 : Nat) ^ 7 = 72057594037927936 := by decide
  omega
set_option maxRecDepth 100000 in
theorem rRising_neg (z : Int) (w : World) (hz : z < 0) : Calls Tryd.prog 112 #[.int .i64 z] w (BytesPost2 5 [] 1 w) := by
  have hd : decide (z < 0) = true := decide_eq_true hz
  go_enter Tryd.func112, Tryd.ntmps112
  go_wp2
  go_ret2
  exact bytes_none2 (Below.refl _ _)
set_option maxRecDepth 100000 in
theorem rRising_any (v : Nat) (w : World) (hv : v < 9223372036854775808) : Calls Tryd.prog 112 #[.int .i64 v] w (BytesPost2 5 (risB v) 0 w) := by
  have hd : decide ((v : Int) < 0) = false := decide_eq_false (by omega)
  have e1 : IntKind.u64.wrap (v : Int) = (v : Int) := by rw [IntKind.wrap_u64]; omega
  go_enter Tryd.func112, Tryd.ntmps112
  go_wp2_with (go_at_call 115; go_must (refine (eight_of v _ (by omega) _ (by omega)).mono ?_); rintro e w1 ⟨A1, c1, rfl, hO1, hb1⟩)
  go_ret2
  exact ⟨A1, c1, rfl, hO1, hb1⟩
theorem big_most {l : List UInt8} (h : l.length = 8) (h0 : 127 < (l[0]?.getD 0).toNat) : 9223372036854775807 < big l := by
  match l, h with
  | c :: t, h =>
    rw [big_cons]
    have ht : t.length = 7 := by simpa using h
    have hc : 127 < c.toNat := by simpa using h0
    rw [ht]
    have h3 : (256 : Nat) ^ 7 = 72057594037927936 := by decide
    rw [h3]
    omega
set_option maxRecDepth 100000 in
theorem rFalling_neg (z : Int) (w : World) (hz : z < 0) : Calls Tryd.prog 98 #[.int .i64 z] w (BytesPost2 5 [] 1 w) := by
  have hd : decide (z < 0) = true := decide_eq_true hz
  go_enter Tryd.func98, Tryd.ntmps98
  go_wp2
  go_ret2
  exact bytes_none2 (Below.refl _ _)
set_option maxRecDepth 100000 in
theorem rFalling_any (v : Nat) (w : World) (hv : v < 9223372036854775808) : Calls Tryd.prog 98 #[.int .i64 v] w (BytesPost2 5 (risB (9223372036854775807 - v)) 0 w) := by
  have hd : decide ((v : Int) < 0) = false := decide_eq_false (by omega)
  have HC : Hid (∀ z : Int, z = 9223372036854775807 - (v : Int) → ∀ w, Calls Tryd.prog 112 #[.int .i64 z] w (BytesPost2 5 (risB (9223372036854775807 - v)) 0 w)) := Lib.hid fun z hz w => by
    rw [show z = ((9223372036854775807 - v : Nat) : Int) from by omega]
    exact rRising_any _ w (by omega)
  have k1 : IntKind.i64.wrap (9223372036854775807 - (v : Int)) = 9223372036854775807 - (v : Int) := i64_sum (by omega) (by omega)
  go_enter Tryd.func98, Tryd.ntmps98
  go_wp2_with (go_at_call 112; go_must (refine (HC.out _ (by omega) _).mono ?_); rintro e w1 ⟨A1, c1, rfl, hO1, hb1⟩)
  go_ret2
  exact ⟨A1, c1, rfl, hO1, hb1⟩
end Go.Proofs.YtmigjipfomfacaaDoor
namespace Go.Proofs.YtmigjipfomfacaaDoor
open Go.RowKit
set_option maxRecDepth 100000 in
set_option maxHeartbeats 1000000 in
theorem rOrdered_any (l : List UInt8) (A : Option Addr) (n c : Nat) (w : World) (hn : n ≤ 70368744177000) (hr : RB w w.heap.size A n l) :
    Calls Tryd.prog 97 #[.slice A n c] w (BytesPost 5 (ordB l) w) := by
  have HL := Lib.hid hr.len
  have HR : Hid (∀ w', Below w.heap.size w w' → RB w' w'.heap.size A n l) := Lib.hid fun w' h => hr.later h
  have HF : Hid (∀ k, ((l.take k).flatMap ordC).length ≤ 140737488354000) := Lib.hid fun k => by
    have := ordF_len (l.take k)
    have h2 : (l.take k).length ≤ l.length := by rw [List.length_take]; omega
    have h3 := HL.out
    omega
  clear hr
  go_enter Tryd.func97, Tryd.ntmps97
  go_wp2
  go_loopw [3, 4] (fun v i wr => ∃ (k : Nat) (P : List UInt8), k ≤ n ∧ i = .int .i64 k ∧ Hid (P = (l.take k).flatMap ordC) ∧ wr.ownsRow w.heap.size 5 1 v P.length (u8s P) ∧ Hid (Below w.heap.size w wr)) (fun _ i _ => n - (intOf i).toNat)
  case atStart => exact ⟨0, [], Nat.zero_le _, rfl, Lib.hid rfl, own_nil _ _ _ _, Lib.hid (Below.refl _ _)⟩
  case round =>
    obtain ⟨k, P, hk, rfl, HP, hown, HB⟩ := hrel
    obtain ⟨v, hv⟩ : ∃ v, v = u3 := ⟨_, rfl⟩
    rw [← hv] at hown ⊢
    clear hv
    have HPL : Hid (P.length ≤ 140737488354000) := Lib.hid (by rw [HP.out]; exact HF.out k)
    by_cases hlt : k < n
    case neg =>
      have HE : Hid (P ++ [0, 1] = ordB l) := Lib.hid (by rw [HP.out, take_all (by have := HL.out; omega)]; rfl)
      go_wp2_with (at_builtin; go_must (refine wpList_append_reads _ rfl (.tmp 26) (.tmp 27) rfl Tryd.u8s' w.heap.size v P.length (u8s P) rfl (hown.alloc _) (wr.heap.size + 1) (some ⟨wr.heap.size, 0, none⟩) 2 2 (u8s [0, 1]) rfl (by exact reads_lit wr _ [0, 1] _ _ rfl) (u8s_one _) (by have := HPL.out; unfold maxLen; omega) (by have := HPL.out; omega) (by have := HB.out.size; simp; omega) ?_); intro v1 w1 hown1 hg1 hat1)
      go_ret
      have hB : w.heap.size ≤ (wr.alloc (.cells #[.int .u8 0, .int .u8 1] 5)).heap.size := by have := HB.out.size; simp; omega
      have HB1 := below_app (HB.out.alloc HB.out.size _) (hown.alloc _) hg1 hB (Nat.le_refl _)
      rw [← u8s_append, HE.out] at hown1
      exact bytes_post hown1 HB1
    obtain ⟨b, o, y, rfl, _, hy, hcy⟩ := (HR.out _ HB.out).at_ hlt
    have HY := Lib.hid (ordB_take hy)
    have HY0 := Lib.hid hy
    clear hy
    by_cases h0 : y.toNat = 0
    · have HN : Hid ((P ++ [y]) ++ [255] = (l.take (k + 1)).flatMap ordC) := Lib.hid (by
        rw [HY.out, HP.out]
        unfold ordC
        rw [if_pos h0, UInt8.toNat_inj.1 (show y.toNat = (0 : UInt8).toNat from h0)]; simp)
      have hd : ((y.toNat : Int) == 0) = true := by rw [beq_iff_eq]; omega
      have tok1 : True := trivial
      clear HY h0
      go_wp2_with (first
        | (at_builtin; have _t := tok1; go_must (refine wpList_append_reads _ rfl (.tmp 11) (.tmp 16) rfl Tryd.u8s' w.heap.size v P.length (u8s P) rfl (hown.alloc _) (wr.heap.size + 1) (some ⟨wr.heap.size, 0, none⟩) 1 1 (u8s [y]) rfl (by exact reads_lit wr _ [y] _ _ rfl) (u8s_one _) (by have := HPL.out; unfold maxLen; omega) (by have := HPL.out; omega) (by have := HB.out.size; simp; omega) ?_); intro v1 w1 hown1 hg1 hat1; clear tok1; have HB1 := Lib.hid (below_app (HB.out.alloc HB.out.size (.cells #[.int .u8 (y.toNat : Int)] 5)) (hown.alloc _) hg1 (by have := HB.out.size; simp; omega) (Nat.le_refl _)); rw [← u8s_append] at hown1; have HO1 := Lib.hid hown1; have hcy1 := (HR.out _ HB1.out).cell HY0.out; clear hown1 hg1 hat1)
        | (at_builtin; go_must (refine wpList_append_reads _ rfl (.tmp 23) (.tmp 24) rfl Tryd.u8s' w.heap.size v1 (P.length + 1) (u8s (P ++ [y])) rfl (HO1.out.alloc _) (w1.heap.size + 1) (some ⟨w1.heap.size, 0, none⟩) 1 1 (u8s [255]) rfl (by exact reads_lit w1 _ [255] _ _ rfl) (u8s_one _) (by have := HPL.out; unfold maxLen; omega) (by have := HPL.out; omega) (by have := HB1.out.size; simp; omega) ?_); intro v2 w2 hown2 hg2 hat2; have HB2 := Lib.hid (below_app (HB1.out.alloc HB1.out.size (.cells #[.int .u8 255] 5)) (HO1.out.alloc _) hg2 (by have := HB1.out.size; simp; omega) (Nat.le_refl _)); rw [← u8s_append] at hown2; have HO2 := Lib.hid hown2; clear hown2 hg2 hat2))
      have hO2 : w2.ownsRow w.heap.size 5 1 v2 ((P ++ [y]) ++ [255]).length (u8s ((P ++ [y]) ++ [255])) := by
        have := HO2.out
        have e : ((P ++ [y]) ++ [(255 : UInt8)]).length = P.length + 1 + 1 := by simp
        rw [e]; exact this
      clear HO2 HO1
      go_roundw
      case rel => exact ⟨k + 1, (P ++ [y]) ++ [255], by omega, by go_num, HN, hO2, HB2⟩
      case measure => simp [intOf]; omega
    · have HN : Hid (P ++ [y] = (l.take (k + 1)).flatMap ordC) := Lib.hid (by
        rw [HY.out, HP.out]
        unfold ordC
        rw [if_neg h0])
      have hd : ((y.toNat : Int) == 0) = false := by rw [beq_eq_false_iff_ne]; omega
      clear HY h0
      go_wp2_with (at_builtin; go_must (refine wpList_append_reads _ rfl (.tmp 11) (.tmp 16) rfl Tryd.u8s' w.heap.size v P.length (u8s P) rfl (hown.alloc _) (wr.heap.size + 1) (some ⟨wr.heap.size, 0, none⟩) 1 1 (u8s [y]) rfl (by exact reads_lit wr _ [y] _ _ rfl) (u8s_one _) (by have := HPL.out; unfold maxLen; omega) (by have := HPL.out; omega) (by have := HB.out.size; simp; omega) ?_); intro v1 w1 hown1 hg1 hat1; have HB1 := Lib.hid (below_app (HB.out.alloc HB.out.size (.cells #[.int .u8 (y.toNat : Int)] 5)) (hown.alloc _) hg1 (by have := HB.out.size; simp; omega) (Nat.le_refl _)); rw [← u8s_append] at hown1; have HO1 := Lib.hid hown1; have hcy1 := (HR.out _ HB1.out).cell HY0.out; clear hown1 hg1 hat1)
      have hO1 : w1.ownsRow w.heap.size 5 1 v1 (P ++ [y]).length (u8s (P ++ [y])) := by
        have := HO1.out
        rw [show (P ++ [y]).length = P.length + 1 from by simp]; exact this
      clear HO1
      go_roundw
      case rel => exact ⟨k + 1, P ++ [y], by omega, by go_num, HN, hO1, HB1⟩
      case measure => simp [intOf]; omega
theorem rStep_two (r c : Nat) (_hr : r < 4294967296) (_hc : c < 4294967296) : rStep (r ^^^ c) = (if (r % 2 != c % 2) = true then r / 2 ^^^ 2197175160 else r / 2) ^^^ (c / 2) := by
  unfold rStep
  have e1 : (r ^^^ c) >>> 1 = (r / 2) ^^^ (c / 2) := by
    rw [Nat.shiftRight_xor_distrib, Nat.shiftRight_eq_div_pow, Nat.shiftRight_eq_div_pow]
  have e2 : (r ^^^ c).testBit 0 = (r % 2 != c % 2) := by
    rw [Nat.testBit_xor, Nat.testBit_zero, Nat.testBit_zero]
    rcases Nat.mod_two_eq_zero_or_one r with h | h <;> rcases Nat.mod_two_eq_zero_or_one c with h' | h' <;> rw [h, h'] <;> rfl
  rw [e1, e2]
  by_cases h : (r % 2 != c % 2) = true
  · rw [if_pos h, if_pos h]; ac_rfl
  · rw [if_neg h, if_neg h, Nat.xor_zero]
theorem rIter_snoc (j x : Nat) : rIter (j + 1) x = rStep (rIter j x) := rIter_succ j x
theorem poly_walk (r : Nat) (h : r < 4294967296) : bits .xor .u32 ((r : Int)) 2197175160 = ((r ^^^ 2197175160 : Nat) : Int) := by
  rw [show (2197175160 : Int) = ((2197175160 : Nat) : Int) from rfl, u32_xor_nat _ _ h (by decide)]
set_option maxRecDepth 100000 in
set_option maxHeartbeats 2000000 in
theorem rSum_any (ks : List (List UInt8)) (A : Option Addr) (n c : Nat) (w : World) (hn : n ≤ 9223372036854775807) (hr : RBs w w.heap.size A n ks) :
    Calls Tryd.prog 99 #[.slice A n c] w fun e w' => e = .returned (.int .u32 (sumL ks.flatten)) ∧ w = w' := by
  have hlen := hr.len
  have HR := Lib.hid hr
  clear hr
  go_enter Tryd.func99, Tryd.ntmps99
  go_wp2
  go_loop [3, 4] (fun s i => ∃ k : Nat, k ≤ n ∧ i = .int .i64 k ∧ ∃ C : Nat, C < 4294967296 ∧ s = .int .u32 C ∧ Hid (C = crcL 4294967295 (ks.take k).flatten)) (fun _ i => n - (intOf i).toNat)
  case atStart => exact ⟨0, Nat.zero_le _, rfl, 4294967295, by omega, rfl, Lib.hid rfl⟩
  case round =>
    obtain ⟨k, hk, rfl, C, hC, rfl, HC⟩ := hrel
    by_cases hlt : k < n
    case neg =>
      have E : Hid ((4294967295 - (C : Int)) = (sumL ks.flatten : Int)) := Lib.hid (by
        have : C = crcL 4294967295 ks.flatten := by rw [HC.out, take_all (by omega)]
        unfold sumL
        rw [← this]; omega)
      have hw : IntKind.u32.wrap (4294967295 - (C : Int)) = 4294967295 - (C : Int) := by rw [IntKind.wrap_u32]; omega
      go_wp2
      go_ret
      exact ⟨by rw [← E.out]; rfl, rfl⟩
    obtain ⟨b, o, x, a, ck, rfl, hb, hx, hcell, hxc, hck, _, hrb⟩ := HR.out.at_ hlt
    have HX := Lib.hid hx
    clear hx
    go_wp2
    go_loop [3, 5] (fun s i => ∃ j : Nat, j ≤ x.length ∧ i = .int .i64 j ∧ ∃ D : Nat, D < 4294967296 ∧ s = .int .u32 D ∧ Hid (D = crcL C (x.take j))) (fun _ i => x.length - (intOf i).toNat)
    case atStart => exact ⟨0, Nat.zero_le _, rfl, C, hC, rfl, Lib.hid rfl⟩
    case round =>
      obtain ⟨j, hj, rfl, D, hD, rfl, HD⟩ := hrel
      by_cases hjl : j < x.length
      case neg =>
        have HN : Hid (D = crcL 4294967295 (ks.take (k + 1)).flatten) := Lib.hid (by
          rw [HD.out, take_all (by omega), HC.out, take_snoc HX.out, List.flatten_append, crcL_app]; simp)
        go_wp2
        go_round
        case rel => exact ⟨k + 1, by omega, by go_num, D, hD, rfl, HN⟩
        case measure => simp [intOf]; omega
      obtain ⟨b2, o2, y, rfl, hb2, hy, hcy⟩ := hrb.at_ hjl
      have HY := Lib.hid hy
      have hy8 := y.toNat_lt
      clear hy
      go_wp2
      go_loop [3, 6, 7] (fun s y' i => ∃ t : Nat, t ≤ 8 ∧ i = .int .i64 t ∧ ∃ E F : Nat, E < 4294967296 ∧ F < 256 ∧ s = .int .u32 E ∧ y' = .int .u8 F ∧ Hid (F = y.toNat / 2 ^ t) ∧ Hid (E ^^^ F = rIter t (D ^^^ y.toNat))) (fun _ _ i => 8 - (intOf i).toNat)
      case atStart => exact ⟨0, by omega, rfl, D, y.toNat, hD, hy8, rfl, rfl, Lib.hid (by simp), Lib.hid rfl⟩
      case round =>
        obtain ⟨t, ht, rfl, E, F, hE, hF, rfl, rfl, HF, HE⟩ := hrel
        by_cases htl : t < 8
        case neg =>
          obtain rfl : t = 8 := by omega
          have HN : Hid (E = crcL C (x.take (j + 1))) := Lib.hid (by
            have h0 : F = 0 := by rw [HF.out, Nat.div_eq_of_lt (by omega)]
            have h1 := HE.out
            rw [h0, Nat.xor_zero] at h1
            rw [take_snoc HY.out, crcL_snoc, ← HD.out, h1]
            rfl)
          have hd : decide ((8 : Int) < 8) = false := by decide
          go_wp2
          go_round
          case rel => exact ⟨j + 1, by omega, by go_num, E, hE, rfl, HN⟩
          case measure => simp [intOf]; omega
        have hd : decide ((t : Int) < 8) = true := decide_eq_true (by omega)
        have HE2 := Lib.hid (rStep_two E F hE (by omega))
        have HFW : Hid (F / 2 = y.toNat / 2 ^ (t + 1)) := Lib.hid (by rw [HF.out, Nat.pow_succ, Nat.div_div_eq_div_mul])
        have hw1 : IntKind.u32.wrap (F : Int) = (F : Int) := by rw [IntKind.wrap_u32]; omega
        have hpw := poly_walk (E / 2) (by omega)
        rw [Int.natCast_ediv] at hpw
        have hpx : (E / 2) ^^^ 2197175160 < 4294967296 := Nat.xor_lt_two_pow (n := 32) (by omega) (by omega)
        by_cases hodd : (E % 2 != F % 2) = true
        · have HN : Hid ((E / 2 ^^^ 2197175160) ^^^ (F / 2) = rIter (t + 1) (D ^^^ y.toNat)) := Lib.hid (by rw [rIter_snoc, ← HE.out, HE2.out, if_pos hodd])
          have hd2 : (((E : Int) % 2) != ((F : Int) % 2)) = true := by rw [bne_iff_ne] at hodd ⊢; omega
          clear hodd
          go_wp2
          go_round
          case rel => exact ⟨t + 1, by omega, by go_num, E / 2 ^^^ 2197175160, F / 2, hpx, by omega, by first | rfl | (rw [← hpw]; rfl), by rw [Int.natCast_ediv]; rfl, HFW, HN⟩
          case measure => simp [intOf]; omega
        · have HN : Hid ((E / 2) ^^^ (F / 2) = rIter (t + 1) (D ^^^ y.toNat)) := Lib.hid (by rw [rIter_snoc, ← HE.out, HE2.out, if_neg hodd])
          have hd2 : (((E : Int) % 2) != ((F : Int) % 2)) = false := by rw [bne_iff_ne] at hodd; rw [bne_eq_false_iff_eq]; omega
          clear hodd
          go_wp2
          go_round
          case rel => exact ⟨t + 1, by omega, by go_num, E / 2, F / 2, by omega, by omega, by rw [Int.natCast_ediv]; rfl, by rw [Int.natCast_ediv]; rfl, HFW, HN⟩
          case measure => simp [intOf]; omega
end Go.Proofs.YtmigjipfomfacaaDoor
namespace Go.Proofs.YtmigjipfomfacaaDoor
open Go.RowKit
theorem rFalling_at (v : Nat) (w : World) (hv : v < 9223372036854775808) : Calls Tryd.prog 98 #[.int .i64 v] w fun e w' => ∃ A c, e = .returned (.tuple #[.slice A 8 c, .int .i64 0]) ∧ w'.ownsRow w.heap.size 5 1 (.slice A 8 c) 8 (u8s (numK v)) ∧ Below w.heap.size w w' := by
  refine (rFalling_any v w hv).mono fun e w' h => ?_
  obtain ⟨A, c, h1, h2, h3, h4⟩ := BytesPost2.at_ h (risB_len _) rfl
  refine ⟨A, c, h1, ?_, h4⟩
  unfold numK
  rw [Int.toNat_natCast]
  have := h3
  unfold OwnB at this
  rw [risB_len] at this
  exact this
set_option maxRecDepth 100000 in
set_option maxHeartbeats 2000000 in
theorem rkey_five (row qual : List UInt8) (A : Option Addr) (n c F : Nat) (B : Option Addr) (m d T S : Nat) (D : Option Addr) (v q : Nat) (w : World) (hrow : Sl w A n c row) (hqual : Sl w B m d qual) (hz : checkN n F m T S 5 v = 0) :
    Calls Tryd.prog 87 #[.agg #[.slice A n c, .int .i64 (F : Int), .slice B m d, .int .i64 (T : Int), .int .i64 (S : Int), .int .i64 5, .slice D v q]] w (BytesPost 5 (keyE ⟨row, F, qual, T, S, 5, []⟩) w) := by
  obtain ⟨z1, z2, z3, z4, z5, z6, -⟩ := checkN_ok hz
  have HN : Hid (n ≤ 256 ∧ m ≤ 256 ∧ T ≤ 1099511627776 ∧ S ≤ 17592186044431) := Lib.hid (by omega)
  have HR : Hid (∀ x, Below w.heap.size w x → Sl x A n c row) := Lib.hid fun x h => hrow.later h
  have HQ : Hid (∀ x, Below w.heap.size w x → Sl x B m d qual) := Lib.hid fun x h => hqual.later h
  have HLEN : Hid ((ordB row).length ≤ 514 ∧ (ordB qual).length ≤ 514) := Lib.hid (by
    have h1 := ordB_len row; have h2 := ordB_len qual; have h3 := hrow.len; have h4 := hqual.len; omega)
  have HX0 := Lib.hid (Bx.new w #[.slice A n c, .int .i64 (F : Int), .slice B m d, .int .i64 (T : Int), .int .i64 (S : Int), .int .i64 5, .slice D v q] 37)
  clear hz z1 z2 z3 z4 z5 z6 hrow hqual
  have tO1 : True := trivial
  have tA1 : True := trivial
  have tA2 : True := trivial
  have tF1 : True := trivial
  have tA5 : True := trivial
  have tA6 : True := trivial
  go_enter Tryd.func87, Tryd.ntmps87
  go_wp2_with (first
    | (go_at_call 97; have _t := tO1; go_must (refine (rOrdered_any row A n c _ (by have := HN.out; omega) (HR.out _ HX0.out.up).rb).mono ?_); rintro e x1 ⟨A1, c1, rfl, hO1, hb1⟩; have HX1 := Lib.hid (HX0.out.later hb1); have HO1 := Lib.hid (own_low hO1 HX0.out.size); clear hO1 hb1 tO1; have q1_1 := HX1.out.cell (i := 1) (v := .int .i64 (F : Int)) rfl)
    | (at_builtin; have _t := tA1; go_must (refine wpList_append_reads _ rfl (.tmp 12) (.tmp 16) rfl Tryd.u8s' (w.heap.size + 1) (.slice A1 (ordB row).length c1) ((ordB row).length) (u8s (ordB row)) rfl (HO1.out.alloc _) (x1.heap.size + 1) (some ⟨x1.heap.size, 0, none⟩) 1 1 (u8s ([UInt8.ofNat F])) rfl (by exact reads_lit x1 _ ([UInt8.ofNat F]) _ _ (by show [_] = [u8v _]; rw [u8v_mod])) (u8s_one _) (by have := HLEN.out; unfold maxLen; omega) (by have := HLEN.out; omega) (by have := HX1.out.size; simp; omega) ?_); intro v2 x2 hown hg hat; clear tA1; have HX2 := Lib.hid ((HX1.out.alloc _).grow (HO1.out.alloc _) hg); rw [← u8s_append] at hown; have HO2 := Lib.hid hown; clear hown hg hat; have q2_5 := HX2.out.cell (i := 5) (v := .int .i64 5) rfl)
    | (at_builtin; have _t := tA2; go_must (refine wpList_append_reads _ rfl (.tmp 21) (.tmp 22) rfl Tryd.u8s' (w.heap.size + 1) v2 ((ordB row).length + 1) (u8s ((ordB row) ++ [UInt8.ofNat F])) rfl (HO2.out.alloc _) (x2.heap.size + 1) (some ⟨x2.heap.size, 0, none⟩) 1 1 (u8s ([0])) rfl (by exact reads_lit x2 _ ([0]) _ _ (by rfl)) (u8s_one _) (by have := HLEN.out; unfold maxLen; omega) (by have := HLEN.out; omega) (by have := HX2.out.size; simp; omega) ?_); intro v3 x3 hown hg hat; clear tA2; have HX3 := Lib.hid ((HX2.out.alloc _).grow (HO2.out.alloc _) hg); rw [← u8s_append] at hown; have HO3 := Lib.hid hown; clear hown hg hat; have q3_3 := HX3.out.cell (i := 3) (v := .int .i64 (T : Int)) rfl)
    | (go_at_call 98; have _t := tF1; go_must (refine (rFalling_at T _ (by have := HN.out; omega)).mono ?_); rintro e x7 ⟨A7, c7, rfl, hO7, hb7⟩; have HX7 := Lib.hid (HX3.out.later hb7); have HO7 := Lib.hid (own_below HO3.out hb7); have HT7 := Lib.hid hO7; clear hO7 hb7 tF1; have q7_4 := HX7.out.cell (i := 4) (v := .int .i64 (S : Int)) rfl)
    | (go_at_call 98; go_must (refine (rFalling_at S _ (by have := HN.out; omega)).mono ?_); rintro e x8 ⟨A8, c8, rfl, hO8, hb8⟩; have HX8 := Lib.hid (HX7.out.later hb8); have HO8 := Lib.hid (own_below HO7.out hb8); have HS8 := Lib.hid hO8; have HR8 := Lib.hid (RB.own (own_below HT7.out hb8)); clear hO8 hb8)
    | (at_builtin; have _t := tA5; go_must (refine wpList_append_reads _ rfl (.tmp 51) (.tmp 52) rfl Tryd.u8s' (w.heap.size + 1) v3 ((ordB row).length + 1 + 1) (u8s (((ordB row) ++ [UInt8.ofNat F]) ++ [0])) rfl HO8.out x8.heap.size A7 8 c7 (u8s (numK T)) rfl HR8.out (u8s_one _) (by have := HLEN.out; unfold maxLen; omega) (by have := HLEN.out; omega) (by have := HX8.out.size; omega) ?_); intro v9 x9 hown hg hat; clear tA5; have HR9 := Lib.hid (RB.own (own_aside HS8.out HO7.out (Nat.le_refl _) hg)); have HX9 := Lib.hid (HX8.out.grow HO8.out hg); rw [← u8s_append] at hown; have HO9 := Lib.hid hown; clear hown hg hat; have q9_5 := HX9.out.cell (i := 5) (v := .int .i64 5) rfl)
    | (at_builtin; have _t := tA6; go_must (refine wpList_append_reads _ rfl (.tmp 54) (.tmp 55) rfl Tryd.u8s' (w.heap.size + 1) v9 ((ordB row).length + 1 + 1 + 8) (u8s ((((ordB row) ++ [UInt8.ofNat F]) ++ [0]) ++ numK T)) rfl HO9.out x9.heap.size A8 8 c8 (u8s (numK S)) rfl HR9.out (u8s_one _) (by have := HLEN.out; unfold maxLen; omega) (by have := HLEN.out; omega) (by have := HX9.out.size; omega) ?_); intro va xa hown hg hat; clear tA6; have HXa := Lib.hid (HX9.out.grow HO9.out hg); rw [← u8s_append] at hown; have HOa := Lib.hid hown; clear hown hg hat; have q10_5 := HXa.out.cell (i := 5) (v := .int .i64 5) rfl)
    | (at_builtin; go_must (refine wpList_append_reads _ rfl (.tmp 57) (.tmp 61) rfl Tryd.u8s' (w.heap.size + 1) va ((ordB row).length + 1 + 1 + 8 + 8) (u8s (((((ordB row) ++ [UInt8.ofNat F]) ++ [0]) ++ numK T) ++ numK S)) rfl (HOa.out.alloc _) (xa.heap.size + 1) (some ⟨xa.heap.size, 0, none⟩) 1 1 (u8s ([UInt8.ofNat 5])) rfl (by exact reads_lit xa _ ([UInt8.ofNat 5]) _ _ (by rfl)) (u8s_one _) (by have := HLEN.out; unfold maxLen; omega) (by have := HLEN.out; omega) (by have := HXa.out.size; simp; omega) ?_); intro vb xb hown hg hat; have HXb := Lib.hid ((HXa.out.alloc _).grow (HOa.out.alloc _) hg); rw [← u8s_append] at hown; have HOb := Lib.hid hown; clear hown hg hat))
  go_ret
  have hf : ((((((ordB row) ++ [UInt8.ofNat F]) ++ [0]) ++ numK T) ++ numK S) ++ [UInt8.ofNat 5]) = keyE ⟨row, F, qual, T, S, 5, []⟩ := by
    unfold keyE tailK qualK
    simp [flg]
  have := HOb.out
  rw [hf] at this
  exact bytes_post (own_low this (Nat.le_succ _)) HXb.out.up
set_option maxRecDepth 100000 in
set_option maxHeartbeats 2000000 in
theorem rkey_four (row qual : List UInt8) (A : Option Addr) (n c F : Nat) (B : Option Addr) (m d T S : Nat) (D : Option Addr) (v q : Nat) (w : World) (hrow : Sl w A n c row) (hqual : Sl w B m d qual) (hz : checkN n F m T S 4 v = 0) :
    Calls Tryd.prog 87 #[.agg #[.slice A n c, .int .i64 (F : Int), .slice B m d, .int .i64 (T : Int), .int .i64 (S : Int), .int .i64 4, .slice D v q]] w (BytesPost 5 (keyE ⟨row, F, qual, T, S, 4, []⟩) w) := by
  obtain ⟨z1, z2, z3, z4, z5, z6, -⟩ := checkN_ok hz
  have HN : Hid (n ≤ 256 ∧ m ≤ 256 ∧ T ≤ 1099511627776 ∧ S ≤ 17592186044431) := Lib.hid (by omega)
  have HR : Hid (∀ x, Below w.heap.size w x → Sl x A n c row) := Lib.hid fun x h => hrow.later h
  have HQ : Hid (∀ x, Below w.heap.size w x → Sl x B m d qual) := Lib.hid fun x h => hqual.later h
  have HLEN : Hid ((ordB row).length ≤ 514 ∧ (ordB qual).length ≤ 514) := Lib.hid (by
    have h1 := ordB_len row; have h2 := ordB_len qual; have h3 := hrow.len; have h4 := hqual.len; omega)
  have HX0 := Lib.hid (Bx.new w #[.slice A n c, .int .i64 (F : Int), .slice B m d, .int .i64 (T : Int), .int .i64 (S : Int), .int .i64 4, .slice D v q] 37)
  clear hz z1 z2 z3 z4 z5 z6 hrow hqual
  have tO1 : True := trivial
  have tA1 : True := trivial
  have tA2 : True := trivial
  have tF1 : True := trivial
  have tA5 : True := trivial
  have tA6 : True := trivial
  have tO2 : True := trivial
  have tA3 : True := trivial
  have tA4 : True := trivial
  go_enter Tryd.func87, Tryd.ntmps87
  go_wp2_with (first
    | (go_at_call 97; have _t := tO1; go_must (refine (rOrdered_any row A n c _ (by have := HN.out; omega) (HR.out _ HX0.out.up).rb).mono ?_); rintro e x1 ⟨A1, c1, rfl, hO1, hb1⟩; have HX1 := Lib.hid (HX0.out.later hb1); have HO1 := Lib.hid (own_low hO1 HX0.out.size); clear hO1 hb1 tO1; have q1_1 := HX1.out.cell (i := 1) (v := .int .i64 (F : Int)) rfl)
    | (at_builtin; have _t := tA1; go_must (refine wpList_append_reads _ rfl (.tmp 12) (.tmp 16) rfl Tryd.u8s' (w.heap.size + 1) (.slice A1 (ordB row).length c1) ((ordB row).length) (u8s (ordB row)) rfl (HO1.out.alloc _) (x1.heap.size + 1) (some ⟨x1.heap.size, 0, none⟩) 1 1 (u8s ([UInt8.ofNat F])) rfl (by exact reads_lit x1 _ ([UInt8.ofNat F]) _ _ (by show [_] = [u8v _]; rw [u8v_mod])) (u8s_one _) (by have := HLEN.out; unfold maxLen; omega) (by have := HLEN.out; omega) (by have := HX1.out.size; simp; omega) ?_); intro v2 x2 hown hg hat; clear tA1; have HX2 := Lib.hid ((HX1.out.alloc _).grow (HO1.out.alloc _) hg); rw [← u8s_append] at hown; have HO2 := Lib.hid hown; clear hown hg hat; have q2_5 := HX2.out.cell (i := 5) (v := .int .i64 4) rfl)
    | (at_builtin; have _t := tA2; go_must (refine wpList_append_reads _ rfl (.tmp 24) (.tmp 25) rfl Tryd.u8s' (w.heap.size + 1) v2 ((ordB row).length + 1) (u8s ((ordB row) ++ [UInt8.ofNat F])) rfl (HO2.out.alloc _) (x2.heap.size + 1) (some ⟨x2.heap.size, 0, none⟩) 1 1 (u8s ([1])) rfl (by exact reads_lit x2 _ ([1]) _ _ (by rfl)) (u8s_one _) (by have := HLEN.out; unfold maxLen; omega) (by have := HLEN.out; omega) (by have := HX2.out.size; simp; omega) ?_); intro v3 x3 hown hg hat; clear tA2; have HX3 := Lib.hid ((HX2.out.alloc _).grow (HO2.out.alloc _) hg); rw [← u8s_append] at hown; have HO3 := Lib.hid hown; clear hown hg hat; have q3_2 := HX3.out.cell (i := 2) (v := .slice B m d) rfl)
    | (go_at_call 97; have _t := tO2; go_must (refine (rOrdered_any qual B m d _ (by have := HN.out; omega) (HQ.out _ HX3.out.up).rb).mono ?_); rintro e x4 ⟨A4, c4, rfl, hO4, hb4⟩; have HX4 := Lib.hid (HX3.out.later hb4); have HO4 := Lib.hid (own_below HO3.out hb4); have HR4 := Lib.hid (RB.own hO4); clear hO4 hb4 tO2)
    | (at_builtin; have _t := tA3; go_must (refine wpList_append_reads _ rfl (.tmp 27) (.tmp 30) rfl Tryd.u8s' (w.heap.size + 1) v3 ((ordB row).length + 1 + 1) (u8s (((ordB row) ++ [UInt8.ofNat F]) ++ [1])) rfl HO4.out x4.heap.size A4 (ordB qual).length c4 (u8s (ordB qual)) rfl HR4.out (u8s_one _) (by have := HLEN.out; unfold maxLen; omega) (by have := HLEN.out; omega) (by have := HX4.out.size; omega) ?_); intro v5 x5 hown hg hat; clear tA3; have HX5 := Lib.hid (HX4.out.grow HO4.out hg); rw [← u8s_append] at hown; have HO5 := Lib.hid hown; clear hown hg hat; have q5_5 := HX5.out.cell (i := 5) (v := .int .i64 4) rfl)
    | (at_builtin; have _t := tA4; go_must (refine wpList_append_reads _ rfl (.tmp 35) (.tmp 37) rfl Tryd.u8s' (w.heap.size + 1) v5 ((ordB row).length + 1 + 1 + (ordB qual).length) (u8s ((((ordB row) ++ [UInt8.ofNat F]) ++ [1]) ++ ordB qual)) rfl (HO5.out.alloc _) (x5.heap.size + 1) (some ⟨x5.heap.size, 0, none⟩) 1 1 (u8s ([0])) rfl (by exact reads_lit x5 _ ([0]) _ _ (by rfl)) (u8s_one _) (by have := HLEN.out; unfold maxLen; omega) (by have := HLEN.out; omega) (by have := HX5.out.size; simp; omega) ?_); intro v6 x6 hown hg hat; clear tA4; have HX6 := Lib.hid ((HX5.out.alloc _).grow (HO5.out.alloc _) hg); rw [← u8s_append] at hown; have HO6 := Lib.hid hown; clear hown hg hat; have q6_3 := HX6.out.cell (i := 3) (v := .int .i64 (T : Int)) rfl)
    | (go_at_call 98; have _t := tF1; go_must (refine (rFalling_at T _ (by have := HN.out; omega)).mono ?_); rintro e x7 ⟨A7, c7, rfl, hO7, hb7⟩; have HX7 := Lib.hid (HX6.out.later hb7); have HO7 := Lib.hid (own_below HO6.out hb7); have HT7 := Lib.hid hO7; clear hO7 hb7 tF1; have q7_4 := HX7.out.cell (i := 4) (v := .int .i64 (S : Int)) rfl)
    | (go_at_call 98; go_must (refine (rFalling_at S _ (by have := HN.out; omega)).mono ?_); rintro e x8 ⟨A8, c8, rfl, hO8, hb8⟩; have HX8 := Lib.hid (HX7.out.later hb8); have HO8 := Lib.hid (own_below HO7.out hb8); have HS8 := Lib.hid hO8; have HR8 := Lib.hid (RB.own (own_below HT7.out hb8)); clear hO8 hb8)
    | (at_builtin; have _t := tA5; go_must (refine wpList_append_reads _ rfl (.tmp 51) (.tmp 52) rfl Tryd.u8s' (w.heap.size + 1) v6 ((ordB row).length + 1 + 1 + (ordB qual).length + 1) (u8s (((((ordB row) ++ [UInt8.ofNat F]) ++ [1]) ++ ordB qual) ++ [0])) rfl HO8.out x8.heap.size A7 8 c7 (u8s (numK T)) rfl HR8.out (u8s_one _) (by have := HLEN.out; unfold maxLen; omega) (by have := HLEN.out; omega) (by have := HX8.out.size; omega) ?_); intro v9 x9 hown hg hat; clear tA5; have HR9 := Lib.hid (RB.own (own_aside HS8.out HO7.out (Nat.le_refl _) hg)); have HX9 := Lib.hid (HX8.out.grow HO8.out hg); rw [← u8s_append] at hown; have HO9 := Lib.hid hown; clear hown hg hat; have q9_5 := HX9.out.cell (i := 5) (v := .int .i64 4) rfl)
    | (at_builtin; have _t := tA6; go_must (refine wpList_append_reads _ rfl (.tmp 54) (.tmp 55) rfl Tryd.u8s' (w.heap.size + 1) v9 ((ordB row).length + 1 + 1 + (ordB qual).length + 1 + 8) (u8s ((((((ordB row) ++ [UInt8.ofNat F]) ++ [1]) ++ ordB qual) ++ [0]) ++ numK T)) rfl HO9.out x9.heap.size A8 8 c8 (u8s (numK S)) rfl HR9.out (u8s_one _) (by have := HLEN.out; unfold maxLen; omega) (by have := HLEN.out; omega) (by have := HX9.out.size; omega) ?_); intro va xa hown hg hat; clear tA6; have HXa := Lib.hid (HX9.out.grow HO9.out hg); rw [← u8s_append] at hown; have HOa := Lib.hid hown; clear hown hg hat; have q10_5 := HXa.out.cell (i := 5) (v := .int .i64 4) rfl)
    | (at_builtin; go_must (refine wpList_append_reads _ rfl (.tmp 57) (.tmp 61) rfl Tryd.u8s' (w.heap.size + 1) va ((ordB row).length + 1 + 1 + (ordB qual).length + 1 + 8 + 8) (u8s (((((((ordB row) ++ [UInt8.ofNat F]) ++ [1]) ++ ordB qual) ++ [0]) ++ numK T) ++ numK S)) rfl (HOa.out.alloc _) (xa.heap.size + 1) (some ⟨xa.heap.size, 0, none⟩) 1 1 (u8s ([UInt8.ofNat 4])) rfl (by exact reads_lit xa _ ([UInt8.ofNat 4]) _ _ (by rfl)) (u8s_one _) (by have := HLEN.out; unfold maxLen; omega) (by have := HLEN.out; omega) (by have := HXa.out.size; simp; omega) ?_); intro vb xb hown hg hat; have HXb := Lib.hid ((HXa.out.alloc _).grow (HOa.out.alloc _) hg); rw [← u8s_append] at hown; have HOb := Lib.hid hown; clear hown hg hat))
  go_ret
  have hf : ((((((((ordB row) ++ [UInt8.ofNat F]) ++ [1]) ++ ordB qual) ++ [0]) ++ numK T) ++ numK S) ++ [UInt8.ofNat 4]) = keyE ⟨row, F, qual, T, S, 4, []⟩ := by
    unfold keyE tailK qualK
    simp [flg]
  have := HOb.out
  rw [hf] at this
  exact bytes_post (own_low this (Nat.le_succ _)) HXb.out.up
set_option maxRecDepth 100000 in
set_option maxHeartbeats 2000000 in
theorem rkey_more (row qual : List UInt8) (A : Option Addr) (n c F : Nat) (B : Option Addr) (m d T S K : Nat) (D : Option Addr) (v q : Nat) (w : World) (hrow : Sl w A n c row) (hqual : Sl w B m d qual) (hz : checkN n F m T S K v = 0) (hk5 : K ≠ 5) (hk4 : K ≠ 4) :
    Calls Tryd.prog 87 #[.agg #[.slice A n c, .int .i64 (F : Int), .slice B m d, .int .i64 (T : Int), .int .i64 (S : Int), .int .i64 (K : Int), .slice D v q]] w (BytesPost 5 (keyE ⟨row, F, qual, T, S, (K : Int), []⟩) w) := by
  obtain ⟨z1, z2, z3, z4, z5, z6, -⟩ := checkN_ok hz
  have HN : Hid (n ≤ 256 ∧ m ≤ 256 ∧ T ≤ 1099511627776 ∧ S ≤ 17592186044431) := Lib.hid (by omega)
  have HR : Hid (∀ x, Below w.heap.size w x → Sl x A n c row) := Lib.hid fun x h => hrow.later h
  have HQ : Hid (∀ x, Below w.heap.size w x → Sl x B m d qual) := Lib.hid fun x h => hqual.later h
  have HLEN : Hid ((ordB row).length ≤ 514 ∧ (ordB qual).length ≤ 514) := Lib.hid (by
    have h1 := ordB_len row; have h2 := ordB_len qual; have h3 := hrow.len; have h4 := hqual.len; omega)
  have HX0 := Lib.hid (Bx.new w #[.slice A n c, .int .i64 (F : Int), .slice B m d, .int .i64 (T : Int), .int .i64 (S : Int), .int .i64 (K : Int), .slice D v q] 37)
  have hkk5 : ((K : Int) == 5) = false := by rw [beq_eq_false_iff_ne]; omega
  have hkk4 : ((K : Int) == 4) = false := by rw [beq_eq_false_iff_ne]; omega
  have HK5 := Lib.hid hk5
  have HK4 := Lib.hid hk4
  clear hk5 hk4
  clear hz z1 z2 z3 z4 z5 z6 hrow hqual
  have tO1 : True := trivial
  have tA1 : True := trivial
  have tA2 : True := trivial
  have tF1 : True := trivial
  have tA5 : True := trivial
  have tA6 : True := trivial
  have tO2 : True := trivial
  have tA3 : True := trivial
  have tA4 : True := trivial
  go_enter Tryd.func87, Tryd.ntmps87
  go_wp2_with (first
    | (go_at_call 97; have _t := tO1; go_must (refine (rOrdered_any row A n c _ (by have := HN.out; omega) (HR.out _ HX0.out.up).rb).mono ?_); rintro e x1 ⟨A1, c1, rfl, hO1, hb1⟩; have HX1 := Lib.hid (HX0.out.later hb1); have HO1 := Lib.hid (own_low hO1 HX0.out.size); clear hO1 hb1 tO1; have q1_1 := HX1.out.cell (i := 1) (v := .int .i64 (F : Int)) rfl)
    | (at_builtin; have _t := tA1; go_must (refine wpList_append_reads _ rfl (.tmp 12) (.tmp 16) rfl Tryd.u8s' (w.heap.size + 1) (.slice A1 (ordB row).length c1) ((ordB row).length) (u8s (ordB row)) rfl (HO1.out.alloc _) (x1.heap.size + 1) (some ⟨x1.heap.size, 0, none⟩) 1 1 (u8s ([UInt8.ofNat F])) rfl (by exact reads_lit x1 _ ([UInt8.ofNat F]) _ _ (by show [_] = [u8v _]; rw [u8v_mod])) (u8s_one _) (by have := HLEN.out; unfold maxLen; omega) (by have := HLEN.out; omega) (by have := HX1.out.size; simp; omega) ?_); intro v2 x2 hown hg hat; clear tA1; have HX2 := Lib.hid ((HX1.out.alloc _).grow (HO1.out.alloc _) hg); rw [← u8s_append] at hown; have HO2 := Lib.hid hown; clear hown hg hat; have q2_5 := HX2.out.cell (i := 5) (v := .int .i64 (K : Int)) rfl)
    | (at_builtin; have _t := tA2; go_must (refine wpList_append_reads _ rfl (.tmp 24) (.tmp 25) rfl Tryd.u8s' (w.heap.size + 1) v2 ((ordB row).length + 1) (u8s ((ordB row) ++ [UInt8.ofNat F])) rfl (HO2.out.alloc _) (x2.heap.size + 1) (some ⟨x2.heap.size, 0, none⟩) 1 1 (u8s ([1])) rfl (by exact reads_lit x2 _ ([1]) _ _ (by rfl)) (u8s_one _) (by have := HLEN.out; unfold maxLen; omega) (by have := HLEN.out; omega) (by have := HX2.out.size; simp; omega) ?_); intro v3 x3 hown hg hat; clear tA2; have HX3 := Lib.hid ((HX2.out.alloc _).grow (HO2.out.alloc _) hg); rw [← u8s_append] at hown; have HO3 := Lib.hid hown; clear hown hg hat; have q3_2 := HX3.out.cell (i := 2) (v := .slice B m d) rfl)
    | (go_at_call 97; have _t := tO2; go_must (refine (rOrdered_any qual B m d _ (by have := HN.out; omega) (HQ.out _ HX3.out.up).rb).mono ?_); rintro e x4 ⟨A4, c4, rfl, hO4, hb4⟩; have HX4 := Lib.hid (HX3.out.later hb4); have HO4 := Lib.hid (own_below HO3.out hb4); have HR4 := Lib.hid (RB.own hO4); clear hO4 hb4 tO2)
    | (at_builtin; have _t := tA3; go_must (refine wpList_append_reads _ rfl (.tmp 27) (.tmp 30) rfl Tryd.u8s' (w.heap.size + 1) v3 ((ordB row).length + 1 + 1) (u8s (((ordB row) ++ [UInt8.ofNat F]) ++ [1])) rfl HO4.out x4.heap.size A4 (ordB qual).length c4 (u8s (ordB qual)) rfl HR4.out (u8s_one _) (by have := HLEN.out; unfold maxLen; omega) (by have := HLEN.out; omega) (by have := HX4.out.size; omega) ?_); intro v5 x5 hown hg hat; clear tA3; have HX5 := Lib.hid (HX4.out.grow HO4.out hg); rw [← u8s_append] at hown; have HO5 := Lib.hid hown; clear hown hg hat; have q5_5 := HX5.out.cell (i := 5) (v := .int .i64 (K : Int)) rfl)
    | (at_builtin; have _t := tA4; go_must (refine wpList_append_reads _ rfl (.tmp 35) (.tmp 37) rfl Tryd.u8s' (w.heap.size + 1) v5 ((ordB row).length + 1 + 1 + (ordB qual).length) (u8s ((((ordB row) ++ [UInt8.ofNat F]) ++ [1]) ++ ordB qual)) rfl (HO5.out.alloc _) (x5.heap.size + 1) (some ⟨x5.heap.size, 0, none⟩) 1 1 (u8s ([1])) rfl (by exact reads_lit x5 _ ([1]) _ _ (by rfl)) (u8s_one _) (by have := HLEN.out; unfold maxLen; omega) (by have := HLEN.out; omega) (by have := HX5.out.size; simp; omega) ?_); intro v6 x6 hown hg hat; clear tA4; have HX6 := Lib.hid ((HX5.out.alloc _).grow (HO5.out.alloc _) hg); rw [← u8s_append] at hown; have HO6 := Lib.hid hown; clear hown hg hat; have q6_3 := HX6.out.cell (i := 3) (v := .int .i64 (T : Int)) rfl)
    | (go_at_call 98; have _t := tF1; go_must (refine (rFalling_at T _ (by have := HN.out; omega)).mono ?_); rintro e x7 ⟨A7, c7, rfl, hO7, hb7⟩; have HX7 := Lib.hid (HX6.out.later hb7); have HO7 := Lib.hid (own_below HO6.out hb7); have HT7 := Lib.hid hO7; clear hO7 hb7 tF1; have q7_4 := HX7.out.cell (i := 4) (v := .int .i64 (S : Int)) rfl)
    | (go_at_call 98; go_must (refine (rFalling_at S _ (by have := HN.out; omega)).mono ?_); rintro e x8 ⟨A8, c8, rfl, hO8, hb8⟩; have HX8 := Lib.hid (HX7.out.later hb8); have HO8 := Lib.hid (own_below HO7.out hb8); have HS8 := Lib.hid hO8; have HR8 := Lib.hid (RB.own (own_below HT7.out hb8)); clear hO8 hb8)
    | (at_builtin; have _t := tA5; go_must (refine wpList_append_reads _ rfl (.tmp 51) (.tmp 52) rfl Tryd.u8s' (w.heap.size + 1) v6 ((ordB row).length + 1 + 1 + (ordB qual).length + 1) (u8s (((((ordB row) ++ [UInt8.ofNat F]) ++ [1]) ++ ordB qual) ++ [1])) rfl HO8.out x8.heap.size A7 8 c7 (u8s (numK T)) rfl HR8.out (u8s_one _) (by have := HLEN.out; unfold maxLen; omega) (by have := HLEN.out; omega) (by have := HX8.out.size; omega) ?_); intro v9 x9 hown hg hat; clear tA5; have HR9 := Lib.hid (RB.own (own_aside HS8.out HO7.out (Nat.le_refl _) hg)); have HX9 := Lib.hid (HX8.out.grow HO8.out hg); rw [← u8s_append] at hown; have HO9 := Lib.hid hown; clear hown hg hat; have q9_5 := HX9.out.cell (i := 5) (v := .int .i64 (K : Int)) rfl)
    | (at_builtin; have _t := tA6; go_must (refine wpList_append_reads _ rfl (.tmp 54) (.tmp 55) rfl Tryd.u8s' (w.heap.size + 1) v9 ((ordB row).length + 1 + 1 + (ordB qual).length + 1 + 8) (u8s ((((((ordB row) ++ [UInt8.ofNat F]) ++ [1]) ++ ordB qual) ++ [1]) ++ numK T)) rfl HO9.out x9.heap.size A8 8 c8 (u8s (numK S)) rfl HR9.out (u8s_one _) (by have := HLEN.out; unfold maxLen; omega) (by have := HLEN.out; omega) (by have := HX9.out.size; omega) ?_); intro va xa hown hg hat; clear tA6; have HXa := Lib.hid (HX9.out.grow HO9.out hg); rw [← u8s_append] at hown; have HOa := Lib.hid hown; clear hown hg hat; have q10_5 := HXa.out.cell (i := 5) (v := .int .i64 (K : Int)) rfl)
    | (at_builtin; go_must (refine wpList_append_reads _ rfl (.tmp 57) (.tmp 61) rfl Tryd.u8s' (w.heap.size + 1) va ((ordB row).length + 1 + 1 + (ordB qual).length + 1 + 8 + 8) (u8s (((((((ordB row) ++ [UInt8.ofNat F]) ++ [1]) ++ ordB qual) ++ [1]) ++ numK T) ++ numK S)) rfl (HOa.out.alloc _) (xa.heap.size + 1) (some ⟨xa.heap.size, 0, none⟩) 1 1 (u8s ([UInt8.ofNat K])) rfl (by exact reads_lit xa _ ([UInt8.ofNat K]) _ _ (by show [_] = [u8v _]; rw [u8v_mod])) (u8s_one _) (by have := HLEN.out; unfold maxLen; omega) (by have := HLEN.out; omega) (by have := HXa.out.size; simp; omega) ?_); intro vb xb hown hg hat; have HXb := Lib.hid ((HXa.out.alloc _).grow (HOa.out.alloc _) hg); rw [← u8s_append] at hown; have HOb := Lib.hid hown; clear hown hg hat))
  go_ret
  have hf : ((((((((ordB row) ++ [UInt8.ofNat F]) ++ [1]) ++ ordB qual) ++ [1]) ++ numK T) ++ numK S) ++ [UInt8.ofNat K]) = keyE ⟨row, F, qual, T, S, (K : Int), []⟩ := by
    unfold keyE tailK qualK
    have a5 : ¬ ((K : Int) = 5) := by have := HK5.out; omega
    have e5 : ((K : Int) == 5) = false := hkk5
    have e4 : ((K : Int) == 4) = false := hkk4
    rw [if_neg a5]
    simp only [e5, e4]
    simp [flg]
  have := HOb.out
  rw [hf] at this
  exact bytes_post (own_low this (Nat.le_succ _)) HXb.out.up
theorem rkey_any (e : Ent) (hz : checkE e = 0) (A : Option Addr) (n c : Nat) (B : Option Addr) (m d : Nat) (D : Option Addr) (v q : Nat) (w : World) (h : En w A n c B m d D v q e) :
    Calls Tryd.prog 87 #[entV A n c B m d D v q e] w (BytesPost 5 (keyE e) w) := by
  obtain ⟨row, f, qual, t, s, k, val⟩ := e
  have hl1 : row.length = n := h.row.len
  have hl2 : qual.length = m := h.qual.len
  have hl3 : val.length = v := h.val.len
  have hc : checkE ⟨row, f, qual, t, s, k, val⟩ = checkN n f m t s k v := by unfold checkE; simp only [hl1, hl2, hl3]
  rw [hc] at hz
  obtain ⟨z1, z2, z3, z4, z5, z6, -⟩ := checkN_ok hz
  obtain ⟨F, rfl⟩ : ∃ F : Nat, f = F := ⟨f.toNat, by omega⟩
  obtain ⟨T, rfl⟩ : ∃ T : Nat, t = T := ⟨t.toNat, by omega⟩
  obtain ⟨S, rfl⟩ : ∃ S : Nat, s = S := ⟨s.toNat, by omega⟩
  obtain ⟨K, rfl⟩ : ∃ K : Nat, k = K := ⟨k.toNat, by omega⟩
  by_cases hk : K = 5
  · subst hk
    exact rkey_five row qual A n c F B m d T S D v q w h.row h.qual hz
  · by_cases hk4 : K = 4
    · subst hk4
      exact rkey_four row qual A n c F B m d T S D v q w h.row h.qual hz
    · exact rkey_more row qual A n c F B m d T S K D v q w h.row h.qual hz hk hk4
set_option maxRecDepth 100000 in
set_option maxHeartbeats 1000000 in
theorem rKey_any (e : Ent) (A : Option Addr) (n c : Nat) (B : Option Addr) (m d : Nat) (D : Option Addr) (v q : Nat) (w : World) (h : En w A n c B m d D v q e) :
    Calls Tryd.prog 56 #[entV A n c B m d D v q e] w (BytesPost2 5 (KeyE e).1 (KeyE e).2 w) := by
  have hl1 := h.row.len
  have hl2 := h.qual.len
  have hl3 := h.val.len
  have HC : Hid (checkN n e.fam m e.ts e.seq e.kind v = checkE e) := Lib.hid (by unfold checkE; simp only [hl1, hl2, hl3])
  have HX0 := Lib.hid (Bx.new w #[.slice A n c, .int .i64 e.fam, .slice B m d, .int .i64 e.ts, .int .i64 e.seq, .int .i64 e.kind, .slice D v q] 37)
  obtain ⟨z, hz⟩ : ∃ z, z = checkE e := ⟨_, rfl⟩
  have HZ := Lib.hid hz
  unfold KeyE
  rw [← hz]
  unfold entV
  by_cases h0 : z = 0
  · subst h0
    have HK : Hid (∀ x, Below w.heap.size w x → Calls Tryd.prog 87 #[.agg #[.slice A n c, .int .i64 e.fam, .slice B m d, .int .i64 e.ts, .int .i64 e.seq, .int .i64 e.kind, .slice D v q]] x (BytesPost 5 (keyE e) x)) := Lib.hid fun x hx => rkey_any e hz.symm A n c B m d D v q x (h.later hx)
    rw [if_pos rfl]
    clear hz h hl1 hl2 hl3
    go_enter Tryd.func56, Tryd.ntmps56
    go_wp2_with (first
      | (go_at_call 42; go_must (refine (rCheck_any _ _ _ _ _ _ _ _ _ _ _ _ _ _).mono ?_); rintro e' x1 ⟨rfl, hb1⟩; rw [HC.out, ← HZ.out]; have HX1 := Lib.hid (HX0.out.later hb1); clear hb1 HX0; have q0 := HX1.out.cell (i := 0) (v := .slice A n c) rfl; have q1 := HX1.out.cell (i := 1) (v := .int .i64 e.fam) rfl; have q2 := HX1.out.cell (i := 2) (v := .slice B m d) rfl; have q3 := HX1.out.cell (i := 3) (v := .int .i64 e.ts) rfl; have q4 := HX1.out.cell (i := 4) (v := .int .i64 e.seq) rfl; have q5 := HX1.out.cell (i := 5) (v := .int .i64 e.kind) rfl; have q6 := HX1.out.cell (i := 6) (v := .slice D v q) rfl)
      | (go_at_call 87; go_must (refine (HK.out _ HX1.out.up).mono ?_); rintro e' x2 ⟨A2, c2, rfl, hO2, hb2⟩; have HO2 := Lib.hid hO2; have HB2 := Lib.hid (HX1.out.up.trans (hb2.mono HX1.out.up.size)); clear hO2 hb2))
    go_ret2
    exact ⟨A2, c2, rfl, HO2.out.rebase HX1.out.up.size, HB2.out⟩
  · rw [if_neg h0]
    have hd : (z != 0) = true := by rw [bne_iff_ne]; exact h0
    clear hz h hl1 hl2 hl3 h0
    go_enter Tryd.func56, Tryd.ntmps56
    go_wp2_with (go_at_call 42; go_must (refine (rCheck_any _ _ _ _ _ _ _ _ _ _ _ _ _ _).mono ?_); rintro e' x1 ⟨rfl, hb1⟩; rw [HC.out, ← HZ.out]; have HX1 := Lib.hid (HX0.out.later hb1); clear hb1 HX0)
    go_ret2
    exact bytes_none2 HX1.out.up
end Go.Proofs.YtmigjipfomfacaaDoor
namespace Go.Proofs.YtmigjipfomfacaaDoor
open Go.RowKit
end Go.Proofs.YtmigjipfomfacaaDoor
namespace Go.Proofs.YtmigjipfomfacaaDoor
open Go.RowKit
def RPost (b : List UInt8) (o : Option (Ent × Nat)) (w : World) : Ending → World → Prop := EntPost (fun v => .tuple #[v, .int .i64 (ParseKeyO b o).2]) (ParseKeyO b o).1 w
theorem keyE_ok {e : Ent} (h : checkE e = 0) : KeyE e = (keyE e, 0) := by unfold KeyE; rw [if_pos h]
theorem keyE_bad {e : Ent} (h : checkE e ≠ 0) : KeyE e = ([], checkE e) := by unfold KeyE; rw [if_neg h]
theorem rpost_ok {b : List UInt8} {E : Ent} {p : Nat} {w : World} (h1 : checkE E = 0) (h2 : keyE E = b) {f : FuncId} {args : Array Value} (h : Calls Tryd.prog f args w (EntPost (fun v => .tuple #[v, .int .i64 0]) E w)) : Calls Tryd.prog f args w (RPost b (some (E, p)) w) := by
  unfold RPost ParseKeyO
  simp only
  rw [if_pos ⟨h1, h2⟩]
  exact h
theorem rpost_no {b : List UInt8} {E : Ent} {p : Nat} {w : World} (hn : ¬ (checkE E = 0 ∧ keyE E = b)) {f : FuncId} {args : Array Value} (h : Calls Tryd.prog f args w (EntPost (fun v => .tuple #[v, .int .i64 27]) noEnt w)) : Calls Tryd.prog f args w (RPost b (some (E, p)) w) := by
  unfold RPost ParseKeyO
  simp only
  rw [if_neg hn]
  exact h
theorem not_end {b : List UInt8} {E : Ent} {p : Nat} (h : parseE b = some (E, p)) (hp : p ≠ b.length) : ¬ (checkE E = 0 ∧ keyE E = b) := by
  rintro ⟨h1, h2⟩
  have := parse_key (ok_of h1)
  rw [h2, h] at this
  injection this with this
  injection this with _ this
  exact hp this
end Go.Proofs.YtmigjipfomfacaaDoor
namespace Go.Proofs.YtmigjipfomfacaaDoor
open Go.RowKit
theorem ref_any (V U j x : Nat) (hj : j ≤ 9) (hx : j = 9 → x ≤ 1) (hU : U = 2 ^ (7 * j)) (hV : V < U) :
    ∃ Q S T : Nat, IntKind.u64.wrap ((U : Int) * ((x : Int) % 128)) = (Q : Int) ∧ IntKind.u64.wrap ((V : Int) + (Q : Int)) = (S : Int) ∧ IntKind.u64.wrap ((U : Int) * 128) = (T : Int) ∧ S = V + x % 128 * 2 ^ (7 * j) ∧ (j ≤ 8 → T = 2 ^ (7 * (j + 1)) ∧ S < T) := by
  by_cases h : j ≤ 8
  · obtain ⟨e1, e2, e3, e4, e5⟩ := ref_step V U j x h hU hV
    exact ⟨_, _, _, e1, e2, e3, rfl, fun _ => ⟨e5, e4⟩⟩
  · obtain rfl : j = 9 := by omega
    rw [show (2 : Nat) ^ (7 * 9) = 9223372036854775808 from by decide] at hU
    subst hU
    obtain ⟨e1, e2⟩ := ref_last V x (hx rfl) hV
    refine ⟨_, _, (IntKind.u64.wrap ((9223372036854775808 : Int) * 128)).toNat, e1, e2, ?_, rfl, fun h => absurd h (by omega)⟩
    decide
end Go.Proofs.YtmigjipfomfacaaDoor
namespace Go.Proofs.YtmigjipfomfacaaDoor
open Go.RowKit
end Go.Proofs.YtmigjipfomfacaaDoor
