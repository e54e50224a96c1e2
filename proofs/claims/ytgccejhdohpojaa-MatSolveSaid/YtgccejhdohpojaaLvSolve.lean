/- A part of the proof of 'MatSolve': lemmas, no statement of their own; no condition. -/
import Derived.Test.YtgccejhdohpojaaLvMat
import Derived.Test.YtgccejhdohpojaaMtJ
/- MatSolve: what is solved is the document's. -/
namespace Go.Ab
open Go Go.Proofs
theorem law19 (p : Bool → M6 × R6 × Int × Unit → R6 × Bool) (n x0 x1 x2 x3 x4 x5 x6 x7 x8 x9 x10 x11 x12 x13 x14 x15 x16 x17 x18 x19 x20 x21 x22 x23 x24 x25 x26 x27 x28 x29 x30 x31 x32 x33 x34 x35 y0 y1 y2 y3 y4 y5 : Int) :
    fnSum Try.prog { gam := [(62, S0 fun (_ : Unit) => true), (76, S 25 p), (77, S 27 p)] } [] 20 19 (List.map AV.val [.agg #[.int .i64 x0, .int .i64 x1, .int .i64 x2, .int .i64 x3, .int .i64 x4, .int .i64 x5, .int .i64 x6, .int .i64 x7, .int .i64 x8, .int .i64 x9, .int .i64 x10, .int .i64 x11, .int .i64 x12, .int .i64 x13, .int .i64 x14, .int .i64 x15, .int .i64 x16, .int .i64 x17, .int .i64 x18, .int .i64 x19, .int .i64 x20, .int .i64 x21, .int .i64 x22, .int .i64 x23, .int .i64 x24, .int .i64 x25, .int .i64 x26, .int .i64 x27, .int .i64 x28, .int .i64 x29, .int .i64 x30, .int .i64 x31, .int .i64 x32, .int .i64 x33, .int .i64 x34, .int .i64 x35], .agg #[.int .i64 y0, .int .i64 y1, .int .i64 y2, .int .i64 y3, .int .i64 y4, .int .i64 y5], .int .i64 n]) [] =
      let r := p false (⟨⟨x0, x1, x2, x3, x4, x5⟩, ⟨x6, x7, x8, x9, x10, x11⟩, ⟨x12, x13, x14, x15, x16, x17⟩, ⟨x18, x19, x20, x21, x22, x23⟩, ⟨x24, x25, x26, x27, x28, x29⟩, ⟨x30, x31, x32, x33, x34, x35⟩⟩, ⟨y0, y1, y2, y3, y4, y5⟩, n, ())
      bif r6b r.1 r.1 then say (r.2 == r.2) else sayF := by kernel_rfl
set_option maxRecDepth 8000 in
theorem MatSolve_calls (x0 x1 x2 x3 x4 x5 x6 x7 x8 x9 x10 x11 x12 x13 x14 x15 x16 x17 x18 x19 x20 x21 x22 x23 x24 x25 x26 x27 x28 x29 x30 x31 x32 x33 x34 x35 y0 y1 y2 y3 y4 y5 n : Int) (w : World) : Calls Try.prog 19 #[.agg #[.int .i64 x0, .int .i64 x1, .int .i64 x2, .int .i64 x3, .int .i64 x4, .int .i64 x5, .int .i64 x6, .int .i64 x7, .int .i64 x8, .int .i64 x9, .int .i64 x10, .int .i64 x11, .int .i64 x12, .int .i64 x13, .int .i64 x14, .int .i64 x15, .int .i64 x16, .int .i64 x17, .int .i64 x18, .int .i64 x19, .int .i64 x20, .int .i64 x21, .int .i64 x22, .int .i64 x23, .int .i64 x24, .int .i64 x25, .int .i64 x26, .int .i64 x27, .int .i64 x28, .int .i64 x29, .int .i64 x30, .int .i64 x31, .int .i64 x32, .int .i64 x33, .int .i64 x34, .int .i64 x35], .agg #[.int .i64 y0, .int .i64 y1, .int .i64 y2, .int .i64 y3, .int .i64 y4, .int .i64 y5], .int .i64 n] w fun e w' => e = .returned (.bool true) ∧ RowKit.Below w.heap.size w w' := by
  have hG : GamOk Try.prog [(62, S0 fun (_ : Unit) => true), (76, S 25 (matSolve opsF)), (77, S 27 (matSolve opsF))] := .cons ok62 (.cons ok76 (.cons ok77 .nil))
  have e := law19 (matSolve opsF) n x0 x1 x2 x3 x4 x5 x6 x7 x8 x9 x10 x11 x12 x13 x14 x15 x16 x17 x18 x19 x20 x21 x22 x23 x24 x25 x26 x27 x28 x29 x30 x31 x32 x33 x34 x35 y0 y1 y2 y3 y4 y5
  dsimp only at e
  rw [r6b_self, cond_true, say, BEq.rfl] at e
  exact calls_of_sum hG e w
end Go.Ab
