/- A part of the proof of 'VecScale': lemmas, no statement of their own; no condition. -/
import Derived.Test.YtgccejhdohpojaaFxM
/- The document's Over is the quotient and what is left. -/
namespace Go.Ab
open Go Go.Proofs
theorem andI_one (a : Int) (h0 : 0 ≤ a) (h1 : a < 18446744073709551616) : andI a 1 = a % 2 := by
  unfold andI
  have e : (BitVec.ofInt IntKind.u64.bits a &&& BitVec.ofInt IntKind.u64.bits 1).toNat = a.toNat % 2 := by
    rw [BitVec.toNat_and, BitVec.toNat_ofInt, BitVec.toNat_ofInt]
    have e1 : (a % ((2 ^ IntKind.u64.bits : Nat) : Int)).toNat = a.toNat := by
      rw [show ((2 ^ IntKind.u64.bits : Nat) : Int) = 18446744073709551616 by decide, Int.emod_eq_of_lt h0 h1]
    have e2 : ((1 : Int) % ((2 ^ IntKind.u64.bits : Nat) : Int)).toNat = 2 ^ 1 - 1 := by decide
    rw [e1, e2, Nat.and_two_pow_sub_one_eq_mod]
  rw [e, wrap_u64_id (by omega) (by omega)]
  omega
theorem ovNext_eq {lf al : Int} {n : Nat} (hn : n < 64) (a0 : 0 ≤ al) (a1 : al < 18446744073709551616) : ovNext lf al n = lf * 2 % 18446744073709551616 + al / 2 ^ n % 2 := by
  have hz : (0 : Int) < 2 ^ n := Int.pow_pos (by omega)
  have b0 : 0 ≤ al / 2 ^ n := Int.ediv_nonneg a0 (by omega)
  have b1 : al / 2 ^ n ≤ al := Int.ediv_le_self _ a0
  unfold ovNext
  have e1 : shI lf 1 = lf * 2 % 18446744073709551616 := shI_eq lf 1 (by omega)
  rw [e1, srI_eq al n (by omega), andI_one _ b0 (by omega)]
  have e2 : lf * 2 % 18446744073709551616 = lf % 9223372036854775808 * 2 ^ 1 := by omega
  rw [e2]
  exact orI_eq _ _ 1 (by omega) (by omega) (by omega) (by omega)
def ovT (lf al : Int) (k : Nat) : Int := lf * 2 ^ k + al % 2 ^ k
def opre : List Int → Bool
  | [b, lf, q, i, _, al] => decide (0 ≤ lf ∧ lf < b ∧ b < 18446744073709551616 ∧ 0 ≤ al ∧ al < 18446744073709551616 ∧ -1 ≤ i ∧ i ≤ 63 ∧ 0 ≤ q ∧ (q + 1) * 2 ^ (i + 1).toNat ≤ 18446744073709551616)
  | _ => false
def opost : List Int → List Int := ovPostV (fun b lf _ i al => ovT lf al (i + 1).toNat % b) (fun b lf q i al => q * 2 ^ (i + 1).toNat + ovT lf al (i + 1).toNat / b)
theorem ovT_step (lf al : Int) (n : Nat) : ovT lf al (n + 1) = (lf * 2 + al / 2 ^ n % 2) * 2 ^ n + al % 2 ^ n := by
  unfold ovT
  have hz : (0 : Int) < 2 ^ n := Int.pow_pos (by omega)
  have h1 : al % 2 ^ (n + 1) = al / 2 ^ n % 2 * 2 ^ n + al % 2 ^ n := by
    have e3 : al = al / 2 ^ n * 2 ^ n + al % 2 ^ n := (Int.ediv_mul_add_emod al _).symm
    have e4 : al / 2 ^ n = al / 2 ^ n / 2 * 2 + al / 2 ^ n % 2 := by omega
    have r0 := Int.emod_nonneg al (b := 2 ^ n) (by omega)
    have r1 := Int.emod_lt_of_pos al hz
    have hp : (2 : Int) ^ (n + 1) = 2 * 2 ^ n := by rw [Int.pow_succ, Int.mul_comm]
    have b0 : 0 ≤ al / 2 ^ n % 2 := by omega
    have b1 : al / 2 ^ n % 2 ≤ 1 := by omega
    have hb : al / 2 ^ n % 2 * 2 ^ n ≤ 1 * 2 ^ n := Int.mul_le_mul_of_nonneg_right b1 (by omega)
    have hb0 : 0 ≤ al / 2 ^ n % 2 * 2 ^ n := Int.mul_nonneg b0 (by omega)
    have e5 : al = al / 2 ^ n / 2 * 2 ^ (n + 1) + (al / 2 ^ n % 2 * 2 ^ n + al % 2 ^ n) := by
      rw [hp, ← Int.mul_assoc, ← Int.add_assoc, ← Int.add_mul, ← e4]; exact e3
    conv => lhs; rw [e5]
    rw [Int.add_comm (al / 2 ^ n / 2 * 2 ^ (n + 1)), Int.add_mul_emod_self_right]
    exact Int.emod_eq_of_lt (by omega) (by omega)
  rw [h1, Int.add_mul, Int.pow_succ]
  have : lf * (2 ^ n * 2) = lf * 2 * 2 ^ n := by rw [Int.mul_assoc, Int.mul_comm 2]
  rw [this, Int.add_assoc]
end Go.Ab
