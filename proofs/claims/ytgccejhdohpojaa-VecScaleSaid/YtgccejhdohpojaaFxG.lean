/- A part of the proof of 'VecScale': lemmas, no statement of their own; no condition. -/
import Derived.Test.YtgccejhdohpojaaFxF
import Derived.Test.YtgccejhdohpojaaShelf
/- math/bits: Mul64, LeadingZeros64, Div64 as summaries. -/
namespace Go.Ab
open Go Go.Proofs
def word (x : Int) : Bool := decide (0 ≤ x ∧ x < 18446744073709551616)
def mulPre (a : U6 × U6 × Unit) : Bool := word a.1.n && word a.2.1.n
def mulVal (a : U6 × U6 × Unit) : Two U6 U6 := ⟨⟨a.1.n * a.2.1.n / 18446744073709551616⟩, ⟨a.1.n * a.2.1.n % 18446744073709551616⟩⟩
theorem ok176 : SumOk Try.prog 176 (S0c mulPre mulVal) := by
  refine S0c_quiet (fun a => [.int .u64 a.1.n, .int .u64 a.2.1.n]) (fun a => rfl) fun a hp w => ?_
  obtain ⟨⟨x⟩, ⟨y⟩, _⟩ := a
  simp only [mulPre, word, Bool.and_eq_true, decide_eq_true_eq] at hp
  have h := Try.bits_Mul64 x.toNat y.toNat (by omega) (by omega) w
  have ex : ((x.toNat : Nat) : Int) = x := by omega
  have ey : ((y.toNat : Nat) : Int) = y := by omega
  have e1 : ((x.toNat * y.toNat / 18446744073709551616 : Nat) : Int) = x * y / 18446744073709551616 := by rw [Int.natCast_ediv, Int.natCast_mul, ex, ey]; rfl
  have e2 : ((x.toNat * y.toNat % 18446744073709551616 : Nat) : Int) = x * y % 18446744073709551616 := by rw [Int.natCast_emod, Int.natCast_mul, ex, ey]; rfl
  rw [e1, e2, ex, ey] at h
  exact h
def lzVal (x : Int) : Int := 64 - (Lib.bitLen x.toNat : Int)
theorem ok185 : SumOk Try.prog 185 (S0c (fun (a : U6 × Unit) => word a.1.n) fun a => lzVal a.1.n) := by
  refine S0c_quiet (fun a => [.int .u64 a.1.n]) (fun a => rfl) fun a hp w => ?_
  obtain ⟨⟨x⟩, _⟩ := a
  simp only [word, decide_eq_true_eq] at hp
  exact Try.bits_LeadingZeros64 x w hp.1 (by omega)
def divPre (a : U6 × U6 × U6 × Unit) : Bool := decide (0 ≤ a.1.n ∧ a.1.n < a.2.2.1.n ∧ 0 ≤ a.2.1.n ∧ a.2.1.n < 18446744073709551616 ∧ a.2.2.1.n < 18446744073709551616)
def divVal (a : U6 × U6 × U6 × Unit) : Two U6 U6 := ⟨⟨(a.1.n * 18446744073709551616 + a.2.1.n) / a.2.2.1.n⟩, ⟨(a.1.n * 18446744073709551616 + a.2.1.n) % a.2.2.1.n⟩⟩
theorem ok183 : SumOk Try.prog 183 (S0c divPre divVal) := by
  have hG : GamOk Try.prog [(185, S0c (fun (a : U6 × Unit) => word a.1.n) fun a => lzVal a.1.n)] := .cons ok185 .nil
  refine S0c_okH (E := { gam := [(185, S0c (fun (a : U6 × Unit) => word a.1.n) fun a => lzVal a.1.n)] }) hG (hB := d64h) d64fit 20 fun a hp => ?_
  obtain ⟨⟨h⟩, ⟨l⟩, ⟨y⟩, _⟩ := a
  simp only [divPre, decide_eq_true_eq] at hp
  obtain ⟨h0, hy, l0, l1, y1⟩ := hp
  refine (d64tree word lzVal dpre (fun y1 y0 u q r => digit y1 y0 u (q * y1 + r)) (fun y1 y0 u q r => q * y1 + r - digit y1 y0 u (q * y1 + r) * y1) h l y).trans ?_
  have t1 : (y == 0) = false := by simp; omega
  have t2 : decide (y ≤ h) = false := by simp; omega
  rw [t1, t2]
  simp only [cond_false]
  by_cases hh : h = 0
  · subst hh
    simp only [BEq.rfl, cond_true]
    have e1 : IntKind.u64.wrap (l.tdiv y) = (0 * 18446744073709551616 + l) / y := by
      have a1 := Int.ediv_le_self (a := l) y l0
      have a2 : 0 ≤ l / y := Int.ediv_nonneg l0 (by omega)
      rw [Int.tdiv_eq_ediv_of_nonneg l0, wrap_u64_id a2 (by omega)]
      congr 1
      omega
    have e2 : l.tmod y = (0 * 18446744073709551616 + l) % y := by
      rw [Int.tmod_eq_emod_of_nonneg l0]
      congr 1
      omega
    rw [e1, e2]
    rfl
  · have t3 : (h == 0) = false := by simp; exact hh
    have t4 : word y = true := by simp only [word, decide_eq_true_eq]; omega
    rw [t3, t4]
    simp only [cond_false, cond_true]
    have hyn : y.toNat ≠ 0 := by omega
    obtain ⟨b1, b2, b3⟩ := Lib.bitLenAux_bounds 64 y.toNat (by omega) hyn
    have hb : Lib.bitLen y.toNat ≤ 64 := Lib.bitLen_le y.toNat 64 (by omega) (by omega)
    change 1 ≤ Lib.bitLen y.toNat at b1
    change 2 ^ (Lib.bitLen y.toNat - 1) ≤ y.toNat at b2
    change y.toNat < 2 ^ Lib.bitLen y.toNat at b3
    generalize hk : Lib.bitLen y.toNat = k at *
    have hs : IntKind.u64.wrap (lzVal y) = ((64 - k : Nat) : Int) := by
      unfold lzVal
      rw [hk, wrap_u64_id (by omega) (by omega)]
      omega
    have hs2 : IntKind.u64.wrap (64 - ((64 - k : Nat) : Int)) = ((64 - (64 - k) : Nat) : Int) := by
      rw [wrap_u64_id (by omega) (by omega)]
      omega
    rw [hs, hs2]
    have t5 : decide (((64 - k : Nat) : Int) < 0) = false := by simp
    have t6 : decide (((64 - (64 - k) : Nat) : Int) < 0) = false := by simp
    rw [t5, t6]
    simp only [cond_false]
    have hpow : ∀ n : Nat, ((2 ^ n : Nat) : Int) = (2 : Int) ^ n := fun n => by simp
    refine d64_val (by omega) h0 hy l0 l1 ?_ ?_
    · have : (2 : Int) ^ (k - 1) ≤ y := by
        rw [← hpow]; omega
      have h2 : (2 : Int) ^ (k - 1) * 2 ^ (64 - k) ≤ y * 2 ^ (64 - k) := Int.mul_le_mul_of_nonneg_right this (Int.pow_nonneg (by omega))
      rw [← Int.pow_add, show k - 1 + (64 - k) = 63 by omega] at h2
      exact h2
    · have : y < (2 : Int) ^ k := by
        rw [← hpow]; omega
      have h2 : y * 2 ^ (64 - k) < (2 : Int) ^ k * 2 ^ (64 - k) := Int.mul_lt_mul_of_pos_right this (Int.pow_pos (by omega))
      rw [← Int.pow_add, show k + (64 - k) = 64 by omega] at h2
      exact h2
end Go.Ab
