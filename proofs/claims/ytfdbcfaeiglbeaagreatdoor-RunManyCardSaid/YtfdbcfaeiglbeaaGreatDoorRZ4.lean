/-
 CellW1.
-/
import Derived.Test.YtfdbcfaeiglbeaaGreatDoorRZ3
namespace Go.Proofs.YtfdbcfaeiglbeaaGreatDoor
open Go.RowKit
def outI (n lo hi:Int):Bool:=decide (n < lo) || decide (hi < n)
set_option maxRecDepth 100000 in
set_option maxHeartbeats 1000000 in
theorem cOutside_any (n lo hi:Int) (w:World):Calls Tryz.prog 209 #[.int .i64 n,.int .i64 lo,.int .i64 hi] w fun e w'=>e = .returned (.bool (outI n lo hi))∧w=w':=by
 unfold outI
 by_cases h:n < lo
 ·have hd:decide (n < lo)=true:=decide_eq_true h
  go_enter Tryz.func209,Tryz.ntmps209
  go_wp2
  go_ret
  exact ⟨by simp [hd],rfl⟩
 ·have hd:decide (n < lo)=false:=decide_eq_false h
  go_enter Tryz.func209,Tryz.ntmps209
  go_wp2
  go_ret
  exact ⟨by simp,rfl⟩
theorem hid_iff {p:Prop}:Hid p↔p:=⟨Hid.out,Lib.hid⟩
theorem outI_pos {n lo hi:Int} (h:outI n lo hi=true):n < lo∨hi < n:=by unfold outI at h;simpa using h
theorem outI_neg {n lo hi:Int} (h:¬ outI n lo hi=true):outI n lo hi=false:=by simpa using h
theorem outI_no {n lo hi:Int} (h:outI n lo hi=false):¬ (n < lo∨hi < n):=by unfold outI at h;simp at h;omega
set_option maxRecDepth 100000 in
set_option maxHeartbeats 4000000 in
theorem check_any (A:Option Addr) (n c:Nat) (f:Int) (B:Option Addr) (m d:Nat) (t s k:Int) (D:Option Addr) (v q:Nat) (w:World) :
  Calls Tryz.prog 161 #[.agg #[.slice A n c,.int .i64 f,.slice B m d,.int .i64 t,.int .i64 s,.int .i64 k,.slice D v q]] w fun e w'=>e = .returned (.int .i64 (checkN n f m t s k v))∧Below w.heap.size w w':=by
 have HB:Hid (∀ o,Below w.heap.size w (w.alloc o)):=Lib.hid fun o=>(Below.refl _ w).alloc (Nat.le_refl _) o
 go_enter Tryz.func161,Tryz.ntmps161
 by_cases h0:outI n 1 256=true
 ·have o0:=Lib.hid (outI_pos h0)
  go_wp2_with (go_at_call 209;refine (cOutside_any _ _ _ _).mono ?_;rintro e w' ⟨rfl,rfl⟩)
  go_ret
  refine ⟨?_,HB.out _⟩
  clear HB
  have HZ:checkN n f m t s k v=20:=by
   simp only [hid_iff] at *
   unfold checkN
   (repeat' split) <;> first | rfl | omega
  rw [HZ];rfl
 have p0:=Lib.hid (outI_no (outI_neg h0))
 replace h0:=outI_neg h0
 by_cases h1:outI f 0 7=true
 ·have o1:=Lib.hid (outI_pos h1)
  go_wp2_with (go_at_call 209;refine (cOutside_any _ _ _ _).mono ?_;rintro e w' ⟨rfl,rfl⟩)
  go_ret
  refine ⟨?_,HB.out _⟩
  clear HB
  have HZ:checkN n f m t s k v=21:=by
   simp only [hid_iff] at *
   unfold checkN
   (repeat' split) <;> first | rfl | omega
  rw [HZ];rfl
 have p1:=Lib.hid (outI_no (outI_neg h1))
 replace h1:=outI_neg h1
 by_cases h2:256 < m
 ·have d1:decide ((256:Int) < (m:Int))=true:=decide_eq_true (by omega)
  have d1n:decide (256 < m)=true:=decide_eq_true h2
  go_wp2_with (go_at_call 209;refine (cOutside_any _ _ _ _).mono ?_;rintro e w' ⟨rfl,rfl⟩)
  go_ret
  refine ⟨?_,HB.out _⟩
  clear HB
  have HZ:checkN n f m t s k v=22:=by
   simp only [hid_iff] at *
   unfold checkN
   (repeat' split) <;> first | rfl | omega
  rw [HZ];rfl
 have da2:decide ((256:Int) < (m:Int))=false:=decide_eq_false (by omega)
 have db2:decide (256 < m)=false:=decide_eq_false h2
 by_cases k2:k=5
 ·have e2:(k == 5)=true:=by simpa using k2
  replace k2:=Lib.hid k2
  by_cases l2:0 < m
  ·have d1:decide ((0:Int) < (m:Int))=true:=decide_eq_true (by omega)
   have d1n:decide (0 < m)=true:=decide_eq_true l2
   go_wp2_with (go_at_call 209;refine (cOutside_any _ _ _ _).mono ?_;rintro e w' ⟨rfl,rfl⟩)
   go_ret
   refine ⟨?_,HB.out _⟩
   clear HB
   have HZ:checkN n f m t s k v=22:=by
    simp only [hid_iff] at *
    unfold checkN
    (repeat' split) <;> first | rfl | omega
   rw [HZ];rfl
  have dc2:decide ((0:Int) < (m:Int))=false:=decide_eq_false (by omega)
  have dd2:decide (0 < m)=false:=decide_eq_false l2
  by_cases h3:outI t 1 1099511627776=true
  ·have o3:=Lib.hid (outI_pos h3)
   go_wp2_with (go_at_call 209;refine (cOutside_any _ _ _ _).mono ?_;rintro e w' ⟨rfl,rfl⟩)
   go_ret
   refine ⟨?_,HB.out _⟩
   clear HB
   have HZ:checkN n f m t s k v=23:=by
    simp only [hid_iff] at *
    unfold checkN
    (repeat' split) <;> first | rfl | omega
   rw [HZ];rfl
  have p3:=Lib.hid (outI_no (outI_neg h3))
  replace h3:=outI_neg h3
  by_cases h4:outI s 0 17592186044431=true
  ·have o4:=Lib.hid (outI_pos h4)
   go_wp2_with (go_at_call 209;refine (cOutside_any _ _ _ _).mono ?_;rintro e w' ⟨rfl,rfl⟩)
   go_ret
   refine ⟨?_,HB.out _⟩
   clear HB
   have HZ:checkN n f m t s k v=24:=by
    simp only [hid_iff] at *
    unfold checkN
    (repeat' split) <;> first | rfl | omega
   rw [HZ];rfl
  have p4:=Lib.hid (outI_no (outI_neg h4))
  replace h4:=outI_neg h4
  by_cases h5:outI k 1 5=true
  ·have o5:=Lib.hid (outI_pos h5)
   go_wp2_with (go_at_call 209;refine (cOutside_any _ _ _ _).mono ?_;rintro e w' ⟨rfl,rfl⟩)
   go_ret
   refine ⟨?_,HB.out _⟩
   clear HB
   have HZ:checkN n f m t s k v=25:=by
    simp only [hid_iff] at *
    unfold checkN
    (repeat' split) <;> first | rfl | omega
   rw [HZ];rfl
  have p5:=Lib.hid (outI_no (outI_neg h5))
  replace h5:=outI_neg h5
  by_cases h6:4096 < v
  ·have d1:decide ((4096:Int) < (v:Int))=true:=decide_eq_true (by omega)
   have d1n:decide (4096 < v)=true:=decide_eq_true h6
   go_wp2_with (go_at_call 209;refine (cOutside_any _ _ _ _).mono ?_;rintro e w' ⟨rfl,rfl⟩)
   go_ret
   refine ⟨?_,HB.out _⟩
   clear HB
   have HZ:checkN n f m t s k v=26:=by
    simp only [hid_iff] at *
    unfold checkN
    (repeat' split) <;> first | rfl | omega
   rw [HZ];rfl
  have da6:decide ((4096:Int) < (v:Int))=false:=decide_eq_false (by omega)
  have db6:decide (4096 < v)=false:=decide_eq_false h6
  by_cases k6:¬ k=1
  ·have e6:(k != 1)=true:=by simpa using k6
   replace k6:=Lib.hid k6
   by_cases l6:0 < v
   ·have d1:decide ((0:Int) < (v:Int))=true:=decide_eq_true (by omega)
    have d1n:decide (0 < v)=true:=decide_eq_true l6
    go_wp2_with (go_at_call 209;refine (cOutside_any _ _ _ _).mono ?_;rintro e w' ⟨rfl,rfl⟩)
    go_ret
    refine ⟨?_,HB.out _⟩
    clear HB
    have HZ:checkN n f m t s k v=26:=by
     simp only [hid_iff] at *
     unfold checkN
     (repeat' split) <;> first | rfl | omega
    rw [HZ];rfl
   have dc6:decide ((0:Int) < (v:Int))=false:=decide_eq_false (by omega)
   have dd6:decide (0 < v)=false:=decide_eq_false l6
   go_wp2_with (go_at_call 209;refine (cOutside_any _ _ _ _).mono ?_;rintro e w' ⟨rfl,rfl⟩)
   go_ret
   refine ⟨?_,HB.out _⟩
   clear HB
   have HZ:checkN n f m t s k v=0:=by
    simp only [hid_iff] at *
    unfold checkN
    (repeat' split) <;> first | rfl | omega
   rw [HZ];rfl
  have e6:(k != 1)=false:=by simpa using k6
  replace k6:=Lib.hid k6
  go_wp2_with (go_at_call 209;refine (cOutside_any _ _ _ _).mono ?_;rintro e w' ⟨rfl,rfl⟩)
  go_ret
  refine ⟨?_,HB.out _⟩
  clear HB
  have HZ:checkN n f m t s k v=0:=by
   simp only [hid_iff] at *
   unfold checkN
   (repeat' split) <;> first | rfl | omega
  rw [HZ];rfl
 have e2:(k == 5)=false:=by simpa using k2
 replace k2:=Lib.hid k2
 by_cases h3:outI t 1 1099511627776=true
 ·have o3:=Lib.hid (outI_pos h3)
  go_wp2_with (go_at_call 209;refine (cOutside_any _ _ _ _).mono ?_;rintro e w' ⟨rfl,rfl⟩)
  go_ret
  refine ⟨?_,HB.out _⟩
  clear HB
  have HZ:checkN n f m t s k v=23:=by
   simp only [hid_iff] at *
   unfold checkN
   (repeat' split) <;> first | rfl | omega
  rw [HZ];rfl
 have p3:=Lib.hid (outI_no (outI_neg h3))
 replace h3:=outI_neg h3
 by_cases h4:outI s 0 17592186044431=true
 ·have o4:=Lib.hid (outI_pos h4)
  go_wp2_with (go_at_call 209;refine (cOutside_any _ _ _ _).mono ?_;rintro e w' ⟨rfl,rfl⟩)
  go_ret
  refine ⟨?_,HB.out _⟩
  clear HB
  have HZ:checkN n f m t s k v=24:=by
   simp only [hid_iff] at *
   unfold checkN
   (repeat' split) <;> first | rfl | omega
  rw [HZ];rfl
 have p4:=Lib.hid (outI_no (outI_neg h4))
 replace h4:=outI_neg h4
 by_cases h5:outI k 1 5=true
 ·have o5:=Lib.hid (outI_pos h5)
  go_wp2_with (go_at_call 209;refine (cOutside_any _ _ _ _).mono ?_;rintro e w' ⟨rfl,rfl⟩)
  go_ret
  refine ⟨?_,HB.out _⟩
  clear HB
  have HZ:checkN n f m t s k v=25:=by
   simp only [hid_iff] at *
   unfold checkN
   (repeat' split) <;> first | rfl | omega
  rw [HZ];rfl
 have p5:=Lib.hid (outI_no (outI_neg h5))
 replace h5:=outI_neg h5
 by_cases h6:4096 < v
 ·have d1:decide ((4096:Int) < (v:Int))=true:=decide_eq_true (by omega)
  have d1n:decide (4096 < v)=true:=decide_eq_true h6
  go_wp2_with (go_at_call 209;refine (cOutside_any _ _ _ _).mono ?_;rintro e w' ⟨rfl,rfl⟩)
  go_ret
  refine ⟨?_,HB.out _⟩
  clear HB
  have HZ:checkN n f m t s k v=26:=by
   simp only [hid_iff] at *
   unfold checkN
   (repeat' split) <;> first | rfl | omega
  rw [HZ];rfl
 have da6:decide ((4096:Int) < (v:Int))=false:=decide_eq_false (by omega)
 have db6:decide (4096 < v)=false:=decide_eq_false h6
 by_cases k6:¬ k=1
 ·have e6:(k != 1)=true:=by simpa using k6
  replace k6:=Lib.hid k6
  by_cases l6:0 < v
  ·have d1:decide ((0:Int) < (v:Int))=true:=decide_eq_true (by omega)
   have d1n:decide (0 < v)=true:=decide_eq_true l6
   go_wp2_with (go_at_call 209;refine (cOutside_any _ _ _ _).mono ?_;rintro e w' ⟨rfl,rfl⟩)
   go_ret
   refine ⟨?_,HB.out _⟩
   clear HB
   have HZ:checkN n f m t s k v=26:=by
    simp only [hid_iff] at *
    unfold checkN
    (repeat' split) <;> first | rfl | omega
   rw [HZ];rfl
  have dc6:decide ((0:Int) < (v:Int))=false:=decide_eq_false (by omega)
  have dd6:decide (0 < v)=false:=decide_eq_false l6
  go_wp2_with (go_at_call 209;refine (cOutside_any _ _ _ _).mono ?_;rintro e w' ⟨rfl,rfl⟩)
  go_ret
  refine ⟨?_,HB.out _⟩
  clear HB
  have HZ:checkN n f m t s k v=0:=by
   simp only [hid_iff] at *
   unfold checkN
   (repeat' split) <;> first | rfl | omega
  rw [HZ];rfl
 have e6:(k != 1)=false:=by simpa using k6
 replace k6:=Lib.hid k6
 go_wp2_with (go_at_call 209;refine (cOutside_any _ _ _ _).mono ?_;rintro e w' ⟨rfl,rfl⟩)
 go_ret
 refine ⟨?_,HB.out _⟩
 clear HB
 have HZ:checkN n f m t s k v=0:=by
  simp only [hid_iff] at *
  unfold checkN
  (repeat' split) <;> first | rfl | omega
 rw [HZ];rfl
end Go.Proofs.YtfdbcfaeiglbeaaGreatDoor
