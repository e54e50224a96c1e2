/- A part of the proof of 'BdotHolds': lemmas, no statement of their own; no condition. -/
import Derived.Test.YtgccejhdohpojaaVcAll
/- bdot's awake. -/
namespace Go.Ab
open Go Go.Proofs
theorem awake13 : fnSum Try.prog { gam := [] } [] 50 57 [] [] = some (.val (.bool true), []) := by kernel_rfl
theorem ok57 : SumOk Try.prog 57 (S0 fun (_ : Unit) => true) := S0_ok (E := { gam := [] }) GamOk.nil 50 fun _ => awake13
end Go.Ab
