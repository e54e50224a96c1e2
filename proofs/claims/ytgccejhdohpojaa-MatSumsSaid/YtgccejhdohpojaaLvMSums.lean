/- A part of the proof of 'MatSums': lemmas, no statement of their own; no condition. -/
import Derived.Test.YtgccejhdohpojaaLvMat
import Derived.Test.YtgccejhdohpojaaMtI
import Derived.Test.YtgccejhdohpojaaMtK
/- MatSums: squares, and what a matrix makes of a row, are the document's. -/
namespace Go.Ab
open Go Go.Proofs
theorem law22 (p : Bool → M6 × Int × Unit → M6 × Bool) (q : Bool → M6 × R6 × Int × Unit → R6 × Bool) (n x0 x1 x2 x3 x4 x5 x6 x7 x8 x9 x10 x11 x12 x13 x14 x15 x16 x17 x18 x19 x20 x21 x22 x23 x24 x25 x26 x27 x28 x29 x30 x31 x32 x33 x34 x35 y0 y1 y2 y3 y4 y5 : Int) :
    fnSum Try.prog { gam := [(62, S0 fun (_ : Unit) => true), (79, S 25 p), (84, S 27 p), (85, S 25 q), (86, S 27 q)] } [] 20 22 (List.map AV.val [.agg #[.int .i64 x0, .int .i64 x1, .int .i64 x2, .int .i64 x3, .int .i64 x4, .int .i64 x5, .int .i64 x6, .int .i64 x7, .int .i64 x8, .int .i64 x9, .int .i64 x10, .int .i64 x11, .int .i64 x12, .int .i64 x13, .int .i64 x14, .int .i64 x15, .int .i64 x16, .int .i64 x17, .int .i64 x18, .int .i64 x19, .int .i64 x20, .int .i64 x21, .int .i64 x22, .int .i64 x23, .int .i64 x24, .int .i64 x25, .int .i64 x26, .int .i64 x27, .int .i64 x28, .int .i64 x29, .int .i64 x30, .int .i64 x31, .int .i64 x32, .int .i64 x33, .int .i64 x34, .int .i64 x35], .agg #[.int .i64 y0, .int .i64 y1, .int .i64 y2, .int .i64 y3, .int .i64 y4, .int .i64 y5], .int .i64 n]) [] =
      let r := p false (⟨⟨x0, x1, x2, x3, x4, x5⟩, ⟨x6, x7, x8, x9, x10, x11⟩, ⟨x12, x13, x14, x15, x16, x17⟩, ⟨x18, x19, x20, x21, x22, x23⟩, ⟨x24, x25, x26, x27, x28, x29⟩, ⟨x30, x31, x32, x33, x34, x35⟩⟩, n, ()); let s := q false (⟨⟨x0, x1, x2, x3, x4, x5⟩, ⟨x6, x7, x8, x9, x10, x11⟩, ⟨x12, x13, x14, x15, x16, x17⟩, ⟨x18, x19, x20, x21, x22, x23⟩, ⟨x24, x25, x26, x27, x28, x29⟩, ⟨x30, x31, x32, x33, x34, x35⟩⟩, ⟨y0, y1, y2, y3, y4, y5⟩, n, ())
      bif m6b r.1 r.1 then bif r.2 == r.2 then bif r6b s.1 s.1 then say (s.2 == s.2) else sayF else sayF else sayF := by kernel_rfl
set_option maxRecDepth 8000 in
theorem MatSums_calls (x0 x1 x2 x3 x4 x5 x6 x7 x8 x9 x10 x11 x12 x13 x14 x15 x16 x17 x18 x19 x20 x21 x22 x23 x24 x25 x26 x27 x28 x29 x30 x31 x32 x33 x34 x35 y0 y1 y2 y3 y4 y5 n : Int) (w : World) : Calls Try.prog 22 #[.agg #[.int .i64 x0, .int .i64 x1, .int .i64 x2, .int .i64 x3, .int .i64 x4, .int .i64 x5, .int .i64 x6, .int .i64 x7, .int .i64 x8, .int .i64 x9, .int .i64 x10, .int .i64 x11, .int .i64 x12, .int .i64 x13, .int .i64 x14, .int .i64 x15, .int .i64 x16, .int .i64 x17, .int .i64 x18, .int .i64 x19, .int .i64 x20, .int .i64 x21, .int .i64 x22, .int .i64 x23, .int .i64 x24, .int .i64 x25, .int .i64 x26, .int .i64 x27, .int .i64 x28, .int .i64 x29, .int .i64 x30, .int .i64 x31, .int .i64 x32, .int .i64 x33, .int .i64 x34, .int .i64 x35], .agg #[.int .i64 y0, .int .i64 y1, .int .i64 y2, .int .i64 y3, .int .i64 y4, .int .i64 y5], .int .i64 n] w fun e w' => e = .returned (.bool true) ∧ RowKit.Below w.heap.size w w' := by
  have hG : GamOk Try.prog [(62, S0 fun (_ : Unit) => true), (79, S 25 (matSquare opsF)), (84, S 27 (matSquare opsF)), (85, S 25 (matApply opsF)), (86, S 27 (matApply opsF))] := .cons ok62 (.cons ok79 (.cons ok84 (.cons ok85 (.cons ok86 .nil))))
  have e := law22 (matSquare opsF) (matApply opsF) n x0 x1 x2 x3 x4 x5 x6 x7 x8 x9 x10 x11 x12 x13 x14 x15 x16 x17 x18 x19 x20 x21 x22 x23 x24 x25 x26 x27 x28 x29 x30 x31 x32 x33 x34 x35 y0 y1 y2 y3 y4 y5
  dsimp only at e
  rw [m6b_self, r6b_self, cond_true, cond_true, say, BEq.rfl, BEq.rfl, cond_true] at e
  exact calls_of_sum hG e w
end Go.Ab
