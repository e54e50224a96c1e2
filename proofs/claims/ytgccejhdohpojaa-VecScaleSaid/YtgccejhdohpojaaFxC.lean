/- A part of the proof of 'VecScale': lemmas, no statement of their own; no condition. -/
import Derived.Test.YtgccejhdohpojaaFxA
import Derived.Test.YtgccejhdohpojaaAcB
/- Long division by halves of a word: the laws of numbers. -/
namespace Go.Ab
/-- One digit: what the loop that guesses keeps. -/
def dpre : List Int → Bool
  | [y1, y0, u, q, r] => decide (2147483648 ≤ y1 ∧ y1 < 4294967296 ∧ 0 ≤ y0 ∧ y0 < 4294967296 ∧ 0 ≤ u ∧ u < 4294967296 ∧ 0 ≤ q ∧ q < 18446744073709551616 ∧ 0 ≤ r ∧ r < 4294967296 ∧ q * y1 + r < y1 * 4294967296 + y0 ∧ u + r * 4294967296 < q * y0 + y1 * 4294967296 + y0)
  | _ => false
def digit (y1 y0 u U : Int) : Int := (U * 4294967296 + u) / (y1 * 4294967296 + y0)
def dpostV (Q R : Int → Int → Int → Int → Int → Int) : List Int → List Int
  | [y1, y0, u, q, r] => [y1, y0, u, Q y1 y0 u q r, R y1 y0 u q r]
  | l => l
def dpost : List Int → List Int := dpostV (fun y1 y0 u q r => digit y1 y0 u (q * y1 + r)) (fun y1 y0 u q r => q * y1 + r - digit y1 y0 u (q * y1 + r) * y1)
theorem le_digit {y1 y0 u U q : Int} (hy : 0 < y1 * 4294967296 + y0) : q ≤ digit y1 y0 u U ↔ q * y1 * 4294967296 + q * y0 ≤ U * 4294967296 + u := by
  unfold digit
  rw [Int.le_ediv_iff_mul_le hy, Int.mul_add, ← Int.mul_assoc]
theorem digit_of {y1 y0 u U q : Int} (hy : 0 < y1 * 4294967296 + y0) (h1 : q * y1 * 4294967296 + q * y0 ≤ U * 4294967296 + u) (h2 : U * 4294967296 + u < q * y1 * 4294967296 + q * y0 + y1 * 4294967296 + y0) : digit y1 y0 u U = q := by
  have a := (le_digit (q := q) (u := u) (U := U) hy).2 h1
  have b : ¬ (q + 1 ≤ digit y1 y0 u U) := by
    rw [le_digit hy, Int.add_mul, Int.add_mul, Int.add_mul]
    omega
  omega
/-- The loop's step, told of its tests. -/
theorem dstep {y1 y0 u q r : Int} (h : dpre [y1, y0, u, q, r] = true) :
    (q ≥ 4294967296 ∨ q * y0 > 4294967296 * r + u → 1 ≤ q ∧ (r + y1 ≥ 4294967296 → dpost [y1, y0, u, q, r] = [y1, y0, u, q - 1, r + y1]) ∧ (r + y1 < 4294967296 → dpre [y1, y0, u, q - 1, r + y1] = true ∧ dpost [y1, y0, u, q - 1, r + y1] = dpost [y1, y0, u, q, r])) ∧
    (q < 4294967296 → q * y0 ≤ 4294967296 * r + u → dpost [y1, y0, u, q, r] = [y1, y0, u, q, r]) := by
  simp only [dpre, decide_eq_true_eq] at h
  obtain ⟨a1, a2, a3, a4, a5, a6, a7, a8, a9, a10, a11, a12⟩ := h
  have hy : 0 < y1 * 4294967296 + y0 := by omega
  have e1 : (q - 1) * y1 = q * y1 - y1 := by rw [Int.sub_mul, Int.one_mul]
  have e2 : (q - 1) * y0 = q * y0 - y0 := by rw [Int.sub_mul, Int.one_mul]
  refine ⟨fun hc => ?_, fun hq hc => ?_⟩
  · have hq1 : 1 ≤ q := by
      rcases hc with hc | hc
      · omega
      · rcases Int.lt_or_le 0 q with h | h
        · omega
        · have : q = 0 := by omega
          subst this
          omega
    -- the guess is too great
    have hgt : 4294967296 * r + u < q * y0 := by
      rcases hc with hc | hc
      · have b1 : 4294967296 * y1 ≤ q * y1 := Int.mul_le_mul_of_nonneg_right hc (by omega)
        have b2 : 4294967296 * y0 ≤ q * y0 := Int.mul_le_mul_of_nonneg_right hc (by omega)
        omega
      · omega
    refine ⟨hq1, fun hr => ?_, fun hr => ⟨?_, ?_⟩⟩
    · -- it ends
      have hlt : (q - 1) * y1 < 4294967296 * y1 := by rw [e1]; omega
      have hq : q - 1 < 4294967296 := Int.lt_of_mul_lt_mul_right hlt (by omega)
      have b : (q - 1) * y0 ≤ 4294967296 * 4294967296 := Int.le_trans (Int.mul_le_mul_of_nonneg_right (by omega) a3) (Int.mul_le_mul_of_nonneg_left (by omega) (by omega))
      have hd : digit y1 y0 u (q * y1 + r) = q - 1 := by
        refine digit_of hy ?_ ?_ <;> rw [e1, e2] <;> omega
      simp only [dpost, dpostV, hd, e1]
      rw [show q * y1 + r - (q * y1 - y1) = r + y1 by omega]
    · simp only [dpre, decide_eq_true_eq, e1, e2]
      omega
    · simp only [dpost, dpostV, e1]
      rw [show q * y1 - y1 + (r + y1) = q * y1 + r by omega]
  · have hd : digit y1 y0 u (q * y1 + r) = q := digit_of hy (by omega) (by omega)
    simp only [dpost, dpostV, hd]
    rw [show q * y1 + r - q * y1 = r by omega]
end Go.Ab
