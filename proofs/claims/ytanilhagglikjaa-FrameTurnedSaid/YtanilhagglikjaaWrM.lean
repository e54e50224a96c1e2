/- A part of the proof of 'FrameTurned': lemmas, no statement of their own; no condition. -/
import Derived.Test.YtanilhagglikjaaAbTwo
/- How a number of 64 bits wraps. -/
namespace Go.Ab
theorem wrapM (z : Int) : IntKind.i64.wrap z = (z + 9223372036854775808) % 18446744073709551616 - 9223372036854775808 := by
  have : IntKind.i64.wrap z = if z % 18446744073709551616 ≥ 9223372036854775808 then z % 18446744073709551616 - 18446744073709551616 else z % 18446744073709551616 := by
    simp [IntKind.wrap, IntKind.bits, IntKind.signed]
  rw [this]
  split <;> omega
end Go.Ab
