/- A part of the proof of 'VecUnits': lemmas, no statement of their own; no condition. -/
import Derived.Test.YtgccejhdohpojaaVcAll
/- VecUnits: lengths and units are the document's. -/
namespace Go.Ab
open Go Go.Proofs
theorem units14 (p : Bool → V3 × Unit → Int × Bool) (q : Bool → V3 × Unit → V3 × Bool) (b : Bool) (x0 x1 x2 : Int) :
    fnSum Try.prog { gam := [(42, S0 fun (_ : Unit) => true), (66, S 25 p), (67, S 27 p), (68, S 25 q), (69, S 27 q)] } [] 20 14 (List.map AV.val [.agg #[.int .i64 x0, .int .i64 x1, .int .i64 x2], .bool b]) [] =
      bif (p b (⟨x0, x1, x2⟩, ())).1 == (p b (⟨x0, x1, x2⟩, ())).1 then
        bif (p b (⟨x0, x1, x2⟩, ())).2 == (p b (⟨x0, x1, x2⟩, ())).2 then
          bif v3b (q b (⟨x0, x1, x2⟩, ())).1 (q b (⟨x0, x1, x2⟩, ())).1 then say ((q b (⟨x0, x1, x2⟩, ())).2 == (q b (⟨x0, x1, x2⟩, ())).2) else sayF
        else sayF
      else sayF := by kernel_rfl
theorem VecUnits_calls (x0 x1 x2 : Int) (b : Bool) (w : World) :
    Calls Try.prog 14 #[.agg #[.int .i64 x0, .int .i64 x1, .int .i64 x2], .bool b] w fun e w' => e = .returned (.bool true) ∧ RowKit.Below w.heap.size w w' := by
  have hG : GamOk Try.prog [(42, S0 fun (_ : Unit) => true), (66, S 25 (vnorm opsF)), (67, S 27 (vnorm opsF)), (68, S 25 (vunit opsF)), (69, S 27 (vunit opsF))] := .cons ok42 (.cons ok66 (.cons ok67 (.cons ok68 (.cons ok69 .nil))))
  refine calls_of_sum (E := { gam := [(42, S0 fun (_ : Unit) => true), (66, S 25 (vnorm opsF)), (67, S 27 (vnorm opsF)), (68, S 25 (vunit opsF)), (69, S 27 (vunit opsF))] }) hG (d := 20) (f := 14) (vals := [.agg #[.int .i64 x0, .int .i64 x1, .int .i64 x2], .bool b]) ?_ w
  rw [units14]
  simp [v3b_self, say]
end Go.Ab
