/-
  Build's numbers. No program in sight.
-/
import Derived.Test.YthjjihipodhkiaaBloomP4
namespace Go.Proofs.Ythjjihipodhkiaa
open Go.RowKit

theorem wrap64_self {x : Int} (h1 : -9223372036854775808 ≤ x) (h2 : x < 9223372036854775808) : wrap64 x = x := by unfold wrap64; omega
theorem build_nums (nb : Nat) (ks : List (List UInt8)) (U P Q M R p D L : Nat) (hU : U = (unl ks).length) (hU2 : U * nb ≤ 20971520) (hnb1 : 1 ≤ nb) (hnb2 : nb ≤ 20) (hP : P = U * nb) (hQ : Q = (P + 7) / 8) (hM : M = buildM nb ks) (hR : R = 7 * nb / 10) (hp : p = buildP nb) (hD : D = M / 8) (hL : L = 6 + D) :
    wrap64 ((U : Int) * (nb : Int)) = (P : Int) ∧ wrap64 ((P : Int) + 7) = (P : Int) + 7 ∧ wrap64 (((P : Int) + 7).tdiv 8) = (Q : Int) ∧ wrap64 ((Q : Int) * 8) = (Q : Int) * 8 ∧ max 64 ((Q : Int) * 8) = (M : Int) ∧ wrap64 (7 * (nb : Int)) = 7 * (nb : Int) ∧
    wrap64 ((7 * (nb : Int)).tdiv 10) = (R : Int) ∧ max 1 (R : Int) = (p : Int) ∧ (M : Int) % 4294967296 = (M : Int) ∧ wrap64 ((M : Int).tdiv 8) = (D : Int) ∧ wrap64 (6 + (D : Int)) = (L : Int) ∧ 7 * (nb : Int) / 10 = (R : Int) ∧ (M : Int) / 8 = (D : Int) ∧ 6 + (D : Int) = (L : Int) ∧ M ≤ 20971520 ∧ 64 ≤ M ∧ M % 8 = 0 ∧ 1 ≤ p ∧ p ≤ 14 ∧ 14 ≤ L ∧ L ≤ 2621446 := by
  have e1 : (U : Int) * (nb : Int) = (P : Int) := by rw [← Int.natCast_mul, ← hP]
  rw [← hP] at hU2
  have hMQ : M = max 64 (Q * 8) := by
    rw [hM, hQ, hP, hU]
    show max 64 (((unl ks).length * (nb : Int).toNat + 7) / 8 * 8) = _
    rw [Int.toNat_natCast]
  have hpR : p = max 1 R := by
    rw [hp, hR]
    show max 1 (7 * (nb : Int).toNat / 10) = _
    rw [Int.toNat_natCast]
  clear hM hp hU hP
  have hM1 : M ≤ 20971520 ∧ 64 ≤ M ∧ M % 8 = 0 := by omega
  rw [e1]
  refine ⟨wrap64_self (by omega) (by omega), wrap64_self (by omega) (by omega), ?_, wrap64_self (by omega) (by omega), by omega, wrap64_self (by omega) (by omega), ?_, by omega, by omega, ?_, ?_, by omega, by omega, by omega, hM1.1, hM1.2.1, hM1.2.2, by omega, by omega, by omega, by omega⟩
  · rw [Int.tdiv_eq_ediv_of_nonneg (by omega), wrap64_self (by omega) (by omega)]; omega
  · rw [Int.tdiv_eq_ediv_of_nonneg (by omega), wrap64_self (by omega) (by omega)]; omega
  · rw [Int.tdiv_eq_ediv_of_nonneg (by omega), wrap64_self (by omega) (by omega)]; omega
  · rw [wrap64_self (by omega) (by omega)]; omega

end Go.Proofs.Ythjjihipodhkiaa
