/- A part of the proof of 'VecScale': lemmas, no statement of their own; no condition. -/
import Derived.Test.YtgccejhdohpojaaFxE
import Derived.Lib.ItoaNum
/- math/bits.Div64 is the quotient and what is left. -/
namespace Go.Ab
open Go Go.Proofs
theorem wrap_u64_emod (a : Int) : IntKind.u64.wrap a = a % 18446744073709551616 := wrap_u64 a
theorem low_eq (U u q y : Int) : low U u q y = (U * 4294967296 + u - q * y) % 18446744073709551616 := by
  unfold low
  simp only [wrap_u64]
  omega
theorem guess_eq {U y1 : Int} (hU : 0 ≤ U) (hU2 : U < 18446744073709551616) (hy : 0 < y1) : guess U y1 = U / y1 ∧ rest U y1 = U % y1 := by
  have h1 : U.tdiv y1 = U / y1 := Int.tdiv_eq_ediv_of_nonneg hU
  have h2 : 0 ≤ U / y1 := Int.ediv_nonneg hU (by omega)
  have h3 : U / y1 ≤ U := Int.ediv_le_self _ hU
  have h4 : U / y1 * y1 ≤ U := Int.ediv_mul_le U (by omega)
  have h5 : 0 ≤ U / y1 * y1 := Int.mul_nonneg h2 (by omega)
  have h6 : U % y1 = U - U / y1 * y1 := by
    have := Int.emod_add_mul_ediv U y1
    rw [Int.mul_comm] at this
    omega
  have g : guess U y1 = U / y1 := by unfold guess; rw [h1, wrap_u64_id h2 (by omega)]
  refine ⟨g, ?_⟩
  unfold rest
  rw [g, wrap_u64_id h5 (by omega), wrap_u64_id (by omega) (by omega), h6]
theorem digit_step {y1 y0 u U D : Int} (hD : D = y1 * 4294967296 + y0) (a1 : 2147483648 ≤ y1) (a2 : y1 < 4294967296) (a3 : 0 ≤ y0) (a4 : y0 < 4294967296) (a5 : 0 ≤ u) (a6 : u < 4294967296) (hU : 0 ≤ U) (hU2 : U < D) :
    dpre [y1, y0, u, guess U y1, rest U y1] = true ∧ digit y1 y0 u (guess U y1 * y1 + rest U y1) = (U * 4294967296 + u) / D ∧ low U u ((U * 4294967296 + u) / D) D = (U * 4294967296 + u) % D ∧
      0 ≤ (U * 4294967296 + u) / D ∧ (U * 4294967296 + u) / D < 4294967296 ∧ 0 ≤ (U * 4294967296 + u) % D ∧ (U * 4294967296 + u) % D < D := by
  obtain ⟨g1, g2⟩ := guess_eq (U := U) (y1 := y1) hU (by omega) (by omega)
  have hD0 : 0 < D := by omega
  have e1 : U / y1 * y1 + U % y1 = U := Int.ediv_mul_add_emod U y1
  have r0 := Int.emod_nonneg U (b := y1) (by omega)
  have r1 := Int.emod_lt_of_pos U (b := y1) (by omega)
  have q0 : 0 ≤ U / y1 := Int.ediv_nonneg hU (by omega)
  have q1 : U / y1 ≤ U := Int.ediv_le_self _ hU
  have c0 : 0 ≤ U / y1 * y0 := Int.mul_nonneg q0 a3
  have m0 := Int.emod_nonneg (U * 4294967296 + u) (b := D) (by omega)
  have m1 := Int.emod_lt_of_pos (U * 4294967296 + u) (b := D) hD0
  have m2 : (U * 4294967296 + u) / D * D + (U * 4294967296 + u) % D = U * 4294967296 + u := Int.ediv_mul_add_emod _ _
  refine ⟨?_, ?_, ?_, Int.ediv_nonneg (by omega) (by omega), ?_, m0, m1⟩
  · rw [g1, g2]
    simp only [dpre, decide_eq_true_eq]
    omega
  · rw [g1, g2, e1]
    unfold digit
    rw [← hD]
  · rw [low_eq]
    generalize (U * 4294967296 + u) / D * D = X at m2 ⊢
    omega
  · exact Int.ediv_lt_of_lt_mul hD0 (by omega)
theorem shI_eq (a : Int) (s : Nat) (hs : s ≤ 64) : shI a s = a * 2 ^ s % 18446744073709551616 := by
  unfold shI
  rw [wrap_u64, Int.toNat_natCast, show min s IntKind.u64.bits = s from Nat.min_eq_left hs]
theorem srI_eq (a : Int) (s : Nat) (hs : s ≤ 64) : srI a s = a / 2 ^ s := by
  unfold srI
  rw [Int.toNat_natCast, show min s IntKind.u64.bits = s from Nat.min_eq_left hs]
  exact Int.fdiv_eq_ediv_of_nonneg _ (Int.pow_nonneg (by omega))
theorem srI_32 (a : Int) : srI a 32 = a / 4294967296 := srI_eq a 32 (by omega)
theorem andI_eq (a : Int) (h0 : 0 ≤ a) (h1 : a < 18446744073709551616) : andI a 4294967295 = a % 4294967296 := by
  unfold andI
  have e : (BitVec.ofInt IntKind.u64.bits a &&& BitVec.ofInt IntKind.u64.bits 4294967295).toNat = a.toNat % 4294967296 := by
    rw [BitVec.toNat_and, BitVec.toNat_ofInt, BitVec.toNat_ofInt]
    have e1 : (a % ((2 ^ IntKind.u64.bits : Nat) : Int)).toNat = a.toNat := by
      rw [show ((2 ^ IntKind.u64.bits : Nat) : Int) = 18446744073709551616 by decide, Int.emod_eq_of_lt h0 h1]
    have e2 : ((4294967295 : Int) % ((2 ^ IntKind.u64.bits : Nat) : Int)).toNat = 2 ^ 32 - 1 := by decide
    rw [e1, e2, Nat.and_two_pow_sub_one_eq_mod]
  rw [e, wrap_u64_id (by omega) (by omega)]
  omega
theorem orI_eq (k b : Int) (s : Nat) (hk : 0 ≤ k) (hb : 0 ≤ b) (hb2 : b < 2 ^ s) (h : k * 2 ^ s + b < 18446744073709551616) : orI (k * 2 ^ s) b = k * 2 ^ s + b := by
  unfold orI
  have hz : (0 : Int) < 2 ^ s := Int.pow_pos (by omega)
  have hkz : 0 ≤ k * 2 ^ s := Int.mul_nonneg hk (by omega)
  have e : (BitVec.ofInt IntKind.u64.bits (k * 2 ^ s) ||| BitVec.ofInt IntKind.u64.bits b).toNat = (k * 2 ^ s + b).toNat := by
    rw [BitVec.toNat_or, BitVec.toNat_ofInt, BitVec.toNat_ofInt, show ((2 ^ IntKind.u64.bits : Nat) : Int) = 18446744073709551616 by decide, Int.emod_eq_of_lt hkz (by omega), Int.emod_eq_of_lt hb (by omega)]
    have hp : ((2 : Int) ^ s) = ((2 ^ s : Nat) : Int) := by simp
    have e1 : (k * 2 ^ s).toNat = 2 ^ s * k.toNat := by
      rw [hp, Int.toNat_mul hk (by omega), Int.toNat_natCast, Nat.mul_comm]
    have e2 : (k * 2 ^ s + b).toNat = 2 ^ s * k.toNat + b.toNat := by
      rw [Int.toNat_add hkz hb, e1]
    rw [e1, e2, Nat.two_pow_add_eq_or_of_lt]
    have : (b.toNat : Int) < ((2 ^ s : Nat) : Int) := by rw [← hp]; omega
    exact Int.ofNat_lt.1 this
  rw [e, wrap_u64_id (by omega) (by omega)]
  omega
theorem d64_val {h l y : Int} {s : Nat} (hs : s < 64) (h0 : 0 ≤ h) (hy : h < y) (l0 : 0 ≤ l) (l1 : l < 18446744073709551616) (n1 : 9223372036854775808 ≤ y * 2 ^ s) (n2 : y * 2 ^ s < 18446744073709551616) :
    d64tail dpre (fun y1 y0 u q r => digit y1 y0 u (q * y1 + r)) s (shI y s) (srI (shI y s) 32) (andI (shI y s) 4294967295) (orI (shI h s) (srI l ((64 - s : Nat) : Int))) (srI (shI l s) 32) (andI (shI l s) 4294967295) =
      some (.val (.tuple #[.int .u64 ((h * 18446744073709551616 + l) / y), .int .u64 ((h * 18446744073709551616 + l) % y)]), []) := by
  have hz : (0 : Int) < 2 ^ s := Int.pow_pos (by omega)
  have hw : (0 : Int) < 2 ^ (64 - s) := Int.pow_pos (by omega)
  have hzw : (2 : Int) ^ s * 2 ^ (64 - s) = 18446744073709551616 := by rw [← Int.pow_add, show s + (64 - s) = 64 by omega]; decide
  rw [shI_eq y s (by omega), shI_eq h s (by omega), shI_eq l s (by omega), srI_eq l (64 - s) (by omega)]
  rw [srI_32, srI_32, andI_eq _ (Int.emod_nonneg _ (by omega)) (Int.emod_lt_of_pos _ (by omega)), andI_eq _ (Int.emod_nonneg _ (by omega)) (Int.emod_lt_of_pos _ (by omega))]
  have hhz : 0 ≤ h * 2 ^ s := Int.mul_nonneg h0 (by omega)
  have hhy : h * 2 ^ s + 2 ^ s ≤ y * 2 ^ s := by
    have : (h + 1) * 2 ^ s ≤ y * 2 ^ s := Int.mul_le_mul_of_nonneg_right (by omega) (by omega)
    rw [Int.add_mul, Int.one_mul] at this
    exact this
  have lw0 : 0 ≤ l / 2 ^ (64 - s) := Int.ediv_nonneg l0 (by omega)
  have lw1 : l / 2 ^ (64 - s) < 2 ^ s := Int.ediv_lt_of_lt_mul hw (by rw [hzw]; exact l1)
  rw [Int.emod_eq_of_lt (a := y * 2 ^ s) (by omega) n2, Int.emod_eq_of_lt (a := h * 2 ^ s) hhz (by omega), orI_eq h _ s h0 lw0 lw1 (by omega)]
  -- the low word
  have hl : l / 2 ^ (64 - s) * 2 ^ (64 - s) + l % 2 ^ (64 - s) = l := Int.ediv_mul_add_emod l _
  have lm0 := Int.emod_nonneg l (b := 2 ^ (64 - s)) (by omega)
  have lm1 := Int.emod_lt_of_pos l hw
  have hl2 : l * 2 ^ s = l / 2 ^ (64 - s) * 18446744073709551616 + l % 2 ^ (64 - s) * 2 ^ s := by
    calc l * 2 ^ s = (l / 2 ^ (64 - s) * 2 ^ (64 - s) + l % 2 ^ (64 - s)) * 2 ^ s := by rw [hl]
      _ = l / 2 ^ (64 - s) * 18446744073709551616 + l % 2 ^ (64 - s) * 2 ^ s := by rw [Int.add_mul, Int.mul_assoc, Int.mul_comm (2 ^ (64 - s)) (2 ^ s), hzw]
  have lz0 : 0 ≤ l % 2 ^ (64 - s) * 2 ^ s := Int.mul_nonneg lm0 (by omega)
  have lz1 : l % 2 ^ (64 - s) * 2 ^ s < 18446744073709551616 := by
    have : l % 2 ^ (64 - s) * 2 ^ s < 2 ^ (64 - s) * 2 ^ s := Int.mul_lt_mul_of_pos_right lm1 hz
    rw [Int.mul_comm (2 ^ (64 - s)) (2 ^ s), hzw] at this
    exact this
  have hL : l * 2 ^ s % 18446744073709551616 = l % 2 ^ (64 - s) * 2 ^ s := by rw [hl2]; omega
  rw [hL]
  generalize hD : y * 2 ^ s = D at *
  generalize hLL : l % 2 ^ (64 - s) * 2 ^ s = L at *
  generalize hU : h * 2 ^ s + l / 2 ^ (64 - s) = U at *
  have hM : U * 18446744073709551616 + L = (h * 18446744073709551616 + l) * 2 ^ s := by
    rw [Int.add_mul, hl2, ← hU, Int.add_mul, Int.mul_assoc h, Int.mul_assoc h, Int.mul_comm (2 ^ s)]
    omega
  obtain ⟨p1, p2, p3, p4, p5, p6, p7⟩ := digit_step (y1 := D / 4294967296) (y0 := D % 4294967296) (u := L / 4294967296) (U := U) (D := D) (by omega) (by omega) (by omega) (by omega) (by omega) (by omega) (by omega) (by omega) (by omega)
  obtain ⟨k1, k2, k3, k4, k5, k6, k7⟩ := digit_step (y1 := D / 4294967296) (y0 := D % 4294967296) (u := L % 4294967296) (U := (U * 4294967296 + L / 4294967296) % D) (D := D) (by omega) (by omega) (by omega) (by omega) (by omega) (by omega) (by omega) p6 p7
  have y1n : (D / 4294967296 == 0) = false := by simp; omega
  unfold d64tail
  dsimp only
  rw [y1n, p1, p2, p3, k1, k2, k3]
  simp only [cond_false, cond_true]
  have hsn : decide ((s : Int) < 0) = false := by simp
  rw [hsn, cond_false, srI_eq _ s (by omega)]
  have m1 : (U * 4294967296 + L / 4294967296) / D * D + (U * 4294967296 + L / 4294967296) % D = U * 4294967296 + L / 4294967296 := Int.ediv_mul_add_emod _ _
  have m2 : ((U * 4294967296 + L / 4294967296) % D * 4294967296 + L % 4294967296) / D * D + ((U * 4294967296 + L / 4294967296) % D * 4294967296 + L % 4294967296) % D = (U * 4294967296 + L / 4294967296) % D * 4294967296 + L % 4294967296 := Int.ediv_mul_add_emod _ _
  generalize (U * 4294967296 + L / 4294967296) / D = Q1 at *
  generalize ((U * 4294967296 + L / 4294967296) % D * 4294967296 + L % 4294967296) / D = Q0 at *
  generalize ((U * 4294967296 + L / 4294967296) % D * 4294967296 + L % 4294967296) % D = R at *
  rw [wrap_u64_id (z := Q1 * 4294967296) (by omega) (by omega), wrap_u64_id (by omega) (by omega)]
  -- the quotient and the rest
  have key : (h * 18446744073709551616 + l) * 2 ^ s = (Q1 * 4294967296 + Q0) * D + R := by
    rw [← hM, Int.add_mul, Int.mul_right_comm]
    omega
  generalize hN : h * 18446744073709551616 + l = N at *
  generalize hQ : Q1 * 4294967296 + Q0 = Q at *
  have key2 : R = (N - Q * y) * 2 ^ s := by
    rw [Int.sub_mul, key, Int.mul_assoc, hD]; omega
  have key3 : R / 2 ^ s = N - Q * y := by rw [key2, Int.mul_ediv_cancel _ (by omega)]
  have b0 : 0 ≤ N - Q * y := by rw [← key3]; exact Int.ediv_nonneg k6 (by omega)
  have b1 : N - Q * y < y := by
    have : (N - Q * y) * 2 ^ s < y * 2 ^ s := by rw [← key2, hD]; exact k7
    exact Int.lt_of_mul_lt_mul_right this (by omega)
  have hy0 : 0 < y := by omega
  have hq : N / y = Q := by
    refine Int.le_antisymm ?_ ?_
    · refine Int.lt_add_one_iff.1 (Int.ediv_lt_of_lt_mul hy0 ?_)
      rw [Int.add_mul, Int.one_mul]; omega
    · exact (Int.le_ediv_iff_mul_le hy0).2 (by omega)
  have hr : N % y = N - Q * y := by
    have := Int.ediv_mul_add_emod N y
    rw [hq] at this
    omega
  rw [key3, hq, hr]
end Go.Ab
