/-
  The statements' reads, walked. (Printed by gen_reads.py.)
-/
import Derived.Test.YtkkfiffgldhahaaDoorWireW13
import Derived.Test.YtkkfiffgldhahaaDoorWireW9
import Derived.Test.YtkkfiffgldhahaaDoorWireW4
import Derived.Test.YtkkfiffgldhahaaDoorWireP10
namespace Go.Proofs.YtkkfiffgldhahaaDoor
open Go.RowKit

section
variable (X l : List UInt8) (XA A : Option Addr) (m cm n c a q v N : Nat) (w : World) (hx : Sl w XA m cm X) (hs : Sl w A n c l) (hm : m ≤ 140737488355000)
include hx hs hm

set_option maxRecDepth 100000 in
set_option maxHeartbeats 2000000 in
theorem reads_0 (hr : readU X (a : Int) = (v, q, 0)) : Calls Tryd.prog 45 #[.slice XA m cm, .int .i64 a, .int .u64 v, .int .i64 N, .slice A n c, .int .i64 2, .int .i64 q] w fun e w' => e = .returned (.bool true) ∧ Below w.heap.size w w' := by
  have HX := Lib.hid hx
  have HS : Hid (∀ w', Below w.heap.size w w' → Sl w' A n c l) := Lib.hid fun w' h => hs.later h
  have HL := Lib.hid hs.len
  have HR := Lib.hid hr
  have hq : ((q : Int) == (q : Int)) = true := by simp
  have hbb : ((v : Int) == (v : Int)) = true := by simp
  clear hx hs hr
  go_enter Tryd.func45, Tryd.ntmps45
  go_wp2_with (first
    | (go_at_call 28; go_must (refine (ru_any X XA m cm a _ (by omega) HX.out.rb).mono ?_); rw [HR.out]; rintro e w1 ⟨rfl, rfl⟩)
    | (go_at_call 20; refine (num_any _ _).mono ?_; rintro e wn ⟨rfl, rfl⟩))
  go_ret
  exact ⟨rfl, Below.refl _ _⟩

set_option maxRecDepth 100000 in
set_option maxHeartbeats 2000000 in
theorem reads_1 (hr : readR X (a : Int) = (N, q, 0)) : Calls Tryd.prog 45 #[.slice XA m cm, .int .i64 a, .int .u64 v, .int .i64 N, .slice A n c, .int .i64 6, .int .i64 q] w fun e w' => e = .returned (.bool true) ∧ Below w.heap.size w w' := by
  have HX := Lib.hid hx
  have HS : Hid (∀ w', Below w.heap.size w w' → Sl w' A n c l) := Lib.hid fun w' h => hs.later h
  have HL := Lib.hid hs.len
  have HR := Lib.hid hr
  have hq : ((q : Int) == (q : Int)) = true := by simp
  have hbb : ((N : Int) == (N : Int)) = true := by simp
  clear hx hs hr
  go_enter Tryd.func45, Tryd.ntmps45
  go_wp2_with (first
    | (go_at_call 47; go_must (refine (rr_any X XA m cm a _ HX.out (by omega)).mono ?_); rw [HR.out]; rintro e w1 ⟨rfl, rfl⟩)
    | (go_at_call 20; refine (num_any _ _).mono ?_; rintro e wn ⟨rfl, rfl⟩))
  go_ret
  exact ⟨rfl, Below.refl _ _⟩

set_option maxRecDepth 100000 in
set_option maxHeartbeats 2000000 in
theorem reads_2 (hr : readFl X (a : Int) = (N, q, 0)) : Calls Tryd.prog 45 #[.slice XA m cm, .int .i64 a, .int .u64 v, .int .i64 N, .slice A n c, .int .i64 8, .int .i64 q] w fun e w' => e = .returned (.bool true) ∧ Below w.heap.size w w' := by
  have HX := Lib.hid hx
  have HS : Hid (∀ w', Below w.heap.size w w' → Sl w' A n c l) := Lib.hid fun w' h => hs.later h
  have HL := Lib.hid hs.len
  have HR := Lib.hid hr
  have hq : ((q : Int) == (q : Int)) = true := by simp
  have hbb : ((N : Int) == (N : Int)) = true := by simp
  clear hx hs hr
  go_enter Tryd.func45, Tryd.ntmps45
  go_wp2_with (first
    | (go_at_call 48; go_must (refine (rfl_any X XA m cm a _ HX.out (by omega)).mono ?_); rw [HR.out]; rintro e w1 ⟨rfl, rfl⟩)
    | (go_at_call 20; refine (num_any _ _).mono ?_; rintro e wn ⟨rfl, rfl⟩))
  go_ret
  exact ⟨rfl, Below.refl _ _⟩

set_option maxRecDepth 100000 in
set_option maxHeartbeats 2000000 in
theorem reads_3 (hr : readBy X (a : Int) (n : Int) = (l, q, 0)) (hn : n ≤ 1048576) : Calls Tryd.prog 45 #[.slice XA m cm, .int .i64 a, .int .u64 v, .int .i64 N, .slice A n c, .int .i64 4, .int .i64 q] w fun e w' => e = .returned (.bool true) ∧ Below w.heap.size w w' := by
  have HX := Lib.hid hx
  have HS : Hid (∀ w', Below w.heap.size w w' → Sl w' A n c l) := Lib.hid fun w' h => hs.later h
  have HL := Lib.hid hs.len
  have HR := Lib.hid hr
  have hq : ((q : Int) == (q : Int)) = true := by simp
  have XB : Hid ((l == l) = true) := Lib.hid (by simp)
  clear hx hs hr
  go_enter Tryd.func45, Tryd.ntmps45
  go_wp2_with (first
    | (go_at_call 29; go_must (refine (rby_any X XA m cm a n _ HX.out (by omega) (by omega)).mono ?_); rintro e w1 hp; rw [HR.out] at hp; obtain ⟨A1, c1, rfl, hS1, _, hb1⟩ := BytesPost3.at_ (n := n) (p' := (q : Int)) (k' := 0) hp HL.out rfl rfl; have HS1 := Lib.hid hS1; have HB1 := Lib.hid hb1; clear hp hS1 hb1)
    | (go_at_call 20; refine (num_any _ _).mono ?_; rintro e wn ⟨rfl, rfl⟩)
    | (go_at_call 24; go_must (refine (same_any l l A1 A n c1 n c _ HS1.out.rb (HS.out _ HB1.out).rb).mono ?_); rintro e wn ⟨rfl, rfl⟩; rw [XB.out]))
  go_ret
  exact ⟨rfl, HB1.out⟩

set_option maxRecDepth 100000 in
set_option maxHeartbeats 2000000 in
theorem reads_4 (hr : readO X (a : Int) = (l, q, 0)) : Calls Tryd.prog 45 #[.slice XA m cm, .int .i64 a, .int .u64 v, .int .i64 N, .slice A n c, .int .i64 10, .int .i64 q] w fun e w' => e = .returned (.bool true) ∧ Below w.heap.size w w' := by
  have HX := Lib.hid hx
  have HS : Hid (∀ w', Below w.heap.size w w' → Sl w' A n c l) := Lib.hid fun w' h => hs.later h
  have HL := Lib.hid hs.len
  have HR := Lib.hid hr
  have hq : ((q : Int) == (q : Int)) = true := by simp
  have XB : Hid ((l == l) = true) := Lib.hid (by simp)
  clear hx hs hr
  go_enter Tryd.func45, Tryd.ntmps45
  go_wp2_with (first
    | (go_at_call 46; go_must (refine (ro_any X XA m cm a _ HX.out (by omega)).mono ?_); rintro e w1 hp; rw [HR.out] at hp; obtain ⟨A1, c1, rfl, hS1, _, hb1⟩ := BytesPost3.at_ (n := n) (p' := (q : Int)) (k' := 0) hp HL.out rfl rfl; have HS1 := Lib.hid hS1; have HB1 := Lib.hid hb1; clear hp hS1 hb1)
    | (go_at_call 20; refine (num_any _ _).mono ?_; rintro e wn ⟨rfl, rfl⟩)
    | (go_at_call 24; go_must (refine (same_any l l A1 A n c1 n c _ HS1.out.rb (HS.out _ HB1.out).rb).mono ?_); rintro e wn ⟨rfl, rfl⟩; rw [XB.out]))
  go_ret
  exact ⟨rfl, HB1.out⟩

set_option maxRecDepth 100000 in
set_option maxHeartbeats 2000000 in
theorem reads_5 (hr : readFA X (a : Int) = (l, q, 0)) (ht : TabAt 0 w) : Calls Tryd.prog 45 #[.slice XA m cm, .int .i64 a, .int .u64 v, .int .i64 N, .slice A n c, .int .i64 13, .int .i64 q] w fun e w' => e = .returned (.bool true) ∧ Below w.heap.size w w' := by
  have HX := Lib.hid hx
  have HS : Hid (∀ w', Below w.heap.size w w' → Sl w' A n c l) := Lib.hid fun w' h => hs.later h
  have HL := Lib.hid hs.len
  have HR := Lib.hid hr
  have HT := Lib.hid ht
  have hq : ((q : Int) == (q : Int)) = true := by simp
  have XB : Hid ((l == l) = true) := Lib.hid (by simp)
  clear hx hs hr ht
  go_enter Tryd.func45, Tryd.ntmps45
  go_wp2_with (first
    | (go_at_call 22; go_must (refine (rframe_any X XA m cm a _ (by omega) HX.out.cap HX.out.lim HX.out.nil HX.out.rb HT.out).mono ?_); rintro e w1 hp; rw [HR.out] at hp; obtain ⟨A1, c1, rfl, hS1, _, hb1⟩ := BytesPost3.at_ (n := n) (p' := (q : Int)) (k' := 0) hp HL.out rfl rfl; have HS1 := Lib.hid hS1; have HB1 := Lib.hid hb1; clear hp hS1 hb1)
    | (go_at_call 20; refine (num_any _ _).mono ?_; rintro e wn ⟨rfl, rfl⟩)
    | (go_at_call 24; go_must (refine (same_any l l A1 A n c1 n c _ HS1.out.rb (HS.out _ HB1.out).rb).mono ?_); rintro e wn ⟨rfl, rfl⟩; rw [XB.out]))
  go_ret
  exact ⟨rfl, HB1.out⟩

end
end Go.Proofs.YtkkfiffgldhahaaDoor
