/- A part of the proof of 'VecScale': lemmas, no statement of their own; no condition. -/
import Derived.Test.YtgccejhdohpojaaAcA
namespace Go.Ab
/-! ### the numbers -/
def most : Int := 4611686018427387904
def num (x : Int) : Bool := decide (x ≤ 4611686018427387904) && decide (-4611686018427387904 ≤ x)
theorem wrap_i64 (z : Int) : IntKind.i64.wrap z = (z + 9223372036854775808) % 18446744073709551616 - 9223372036854775808 := by
  have : IntKind.i64.wrap z = if z % 18446744073709551616 ≥ 9223372036854775808 then z % 18446744073709551616 - 18446744073709551616 else z % 18446744073709551616 := by
    simp [IntKind.wrap, IntKind.bits, IntKind.signed]
  rw [this]
  split <;> omega
theorem wrap_u64 (z : Int) : IntKind.u64.wrap z = z % 18446744073709551616 := by
  simp [IntKind.wrap, IntKind.bits, IntKind.signed]
theorem wrap_i64_id {z : Int} (h1 : -9223372036854775808 ≤ z) (h2 : z < 9223372036854775808) : IntKind.i64.wrap z = z := by rw [wrap_i64]; omega
theorem wrap_u64_id {z : Int} (h1 : 0 ≤ z) (h2 : z < 18446744073709551616) : IntKind.u64.wrap z = z := by rw [wrap_u64]; omega
def fadd (b : Bool) (x y : Int) : Int × Bool := bif !b && (num x && (num y && num (x + y))) then (x + y, false) else (0, true)
def fsub (b : Bool) (x y : Int) : Int × Bool := bif !b && (num x && (num y && num (x - y))) then (x - y, false) else (0, true)
theorem num_iff {x : Int} : num x = true ↔ -4611686018427387904 ≤ x ∧ x ≤ 4611686018427387904 := by simp [num]; omega
theorem tdiv2 (x : Int) : x.tdiv 2 = if 0 ≤ x then x / 2 else -((-x) / 2) := by
  have h2 : Int.sign 2 = 1 := rfl
  rw [Int.tdiv_eq_ediv, h2]
  split <;> split <;> omega
theorem tmod2 (x : Int) : x.tmod 2 = if 0 ≤ x then x % 2 else -((-x) % 2) := by
  have h := Int.tmod_add_mul_tdiv x 2
  rw [tdiv2] at h
  split at h <;> split <;> omega
theorem half_sum {x y : Int} (hx1 : -4611686018427387904 ≤ x) (hx2 : x ≤ 4611686018427387904) (hy1 : -4611686018427387904 ≤ y) (hy2 : y ≤ 4611686018427387904) :
    IntKind.i64.wrap (IntKind.i64.wrap (IntKind.i64.wrap (x.tdiv 2) + IntKind.i64.wrap (y.tdiv 2)) + IntKind.i64.wrap ((IntKind.i64.wrap (x.tmod 2 + y.tmod 2)).tdiv 2)) = x.tdiv 2 + y.tdiv 2 + (x.tmod 2 + y.tmod 2).tdiv 2 := by
  have b1 := tdiv2 x
  have b2 := tdiv2 y
  have b3 := tmod2 x
  have b4 := tmod2 y
  have a1 : -2305843009213693952 ≤ x.tdiv 2 ∧ x.tdiv 2 ≤ 2305843009213693952 := by constructor <;> omega
  have a2 : -2305843009213693952 ≤ y.tdiv 2 ∧ y.tdiv 2 ≤ 2305843009213693952 := by constructor <;> omega
  have a3 : -1 ≤ x.tmod 2 ∧ x.tmod 2 ≤ 1 := by constructor <;> omega
  have a4 : -1 ≤ y.tmod 2 ∧ y.tmod 2 ≤ 1 := by constructor <;> omega
  have b5 := tdiv2 (x.tmod 2 + y.tmod 2)
  rw [wrap_i64_id (z := x.tdiv 2) (by omega) (by omega), wrap_i64_id (z := y.tdiv 2) (by omega) (by omega), wrap_i64_id (z := x.tmod 2 + y.tmod 2) (by omega) (by omega),
    wrap_i64_id (z := (x.tmod 2 + y.tmod 2).tdiv 2) (by omega) (by omega), wrap_i64_id (z := x.tdiv 2 + y.tdiv 2) (by omega) (by omega), wrap_i64_id (by omega) (by omega)]
end Go.Ab
