/-
 Crc.
-/
namespace Go.Proofs.YtfdbcfaeiglbeaaGreatDoor
def rStep (c:Nat):Nat:=(c >>> 1) ^^^ (if c.testBit 0 then 2197175160 else 0)
def rIter:Nat→Nat→Nat
 | 0,c=>c
 | n + 1,c=>rIter n (rStep c)
theorem rIter_add (m n c:Nat):rIter (m + n) c=rIter n (rIter m c):=by
 induction m generalizing c with
 | zero=>rw [Nat.zero_add];rfl
 | succ m ih=>rw [Nat.succ_add];exact ih _
theorem rStep_lt {c:Nat} (h:c < 4294967296):rStep c < 4294967296:=by
 unfold rStep
 refine Nat.xor_lt_two_pow (n:=32) ?_ ?_
 ·rw [Nat.shiftRight_eq_div_pow];omega
 ·split <;> omega
theorem rIter_lt (n:Nat):∀ {c:Nat},c < 4294967296→rIter n c < 4294967296:=by
 induction n with
 | zero=>exact fun h=>h
 | succ n ih=>exact fun h=>ih (rStep_lt h)
theorem rStep_xor (a b:Nat):rStep (a ^^^ b)=rStep a ^^^ rStep b:=by
 unfold rStep
 rw [Nat.shiftRight_xor_distrib,Nat.testBit_xor]
 cases a.testBit 0 <;> cases b.testBit 0 <;> simp
 ·ac_rfl
 ·ac_rfl
 ·rw [show a >>> 1 ^^^ 2197175160 ^^^ (b >>> 1 ^^^ 2197175160)=a >>> 1 ^^^ b >>> 1 ^^^ (2197175160 ^^^ 2197175160) from by ac_rfl,Nat.xor_self,Nat.xor_zero]
theorem rIter_xor (n a b:Nat):rIter n (a ^^^ b)=rIter n a ^^^ rIter n b:=by
 induction n generalizing a b with
 | zero=>rfl
 | succ n ih=>show rIter n (rStep _)=_;rw [rStep_xor,ih];rfl
end Go.Proofs.YtfdbcfaeiglbeaaGreatDoor
