/- A part of the proof of 'VecParts': lemmas, no statement of their own; no condition. -/
import Derived.Test.YtgccejhdohpojaaVcAll
/- VecParts: how far two directions are apart is the document's. -/
namespace Go.Ab
open Go Go.Proofs
theorem parts18 (p : Bool → V3 × V3 × Unit → Two Int Int × Bool) (b : Bool) (x0 x1 x2 y0 y1 y2 : Int) :
    fnSum Try.prog { gam := [(42, S0 fun (_ : Unit) => true), (74, S 25 p), (75, S 27 p)] } [] 20 18 (List.map AV.val [.agg #[.int .i64 x0, .int .i64 x1, .int .i64 x2], .agg #[.int .i64 y0, .int .i64 y1, .int .i64 y2], .bool b]) [] =
      let r := p b (⟨x0, x1, x2⟩, ⟨y0, y1, y2⟩, ())
      bif r.1.a == r.1.a then bif r.1.b == r.1.b then say (r.2 == r.2) else sayF else sayF := by kernel_rfl
theorem VecParts_calls (x0 x1 x2 y0 y1 y2 : Int) (b : Bool) (w : World) :
    Calls Try.prog 18 #[.agg #[.int .i64 x0, .int .i64 x1, .int .i64 x2], .agg #[.int .i64 y0, .int .i64 y1, .int .i64 y2], .bool b] w fun e w' => e = .returned (.bool true) ∧ RowKit.Below w.heap.size w w' := by
  have hG : GamOk Try.prog [(42, S0 fun (_ : Unit) => true), (74, S 25 (vparts vopsF)), (75, S 27 (vparts vopsF))] := .cons ok42 (.cons ok74 (.cons ok75 .nil))
  refine calls_of_sum (E := { gam := [(42, S0 fun (_ : Unit) => true), (74, S 25 (vparts vopsF)), (75, S 27 (vparts vopsF))] }) hG (d := 20) (f := 18) (vals := [.agg #[.int .i64 x0, .int .i64 x1, .int .i64 x2], .agg #[.int .i64 y0, .int .i64 y1, .int .i64 y2], .bool b]) ?_ w
  rw [parts18]
  simp [say]
end Go.Ab
