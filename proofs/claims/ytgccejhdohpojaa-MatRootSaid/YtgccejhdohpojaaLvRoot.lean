/- A part of the proof of 'MatRoot': lemmas, no statement of their own; no condition. -/
import Derived.Test.YtgccejhdohpojaaLvMat
/- MatRoot: roots are the document's. -/
namespace Go.Ab
open Go Go.Proofs
theorem law13 (p : Bool → M6 × Int × Unit → M6 × Bool) (b : Bool) (n x0 x1 x2 x3 x4 x5 x6 x7 x8 x9 x10 x11 x12 x13 x14 x15 x16 x17 x18 x19 x20 x21 x22 x23 x24 x25 x26 x27 x28 x29 x30 x31 x32 x33 x34 x35 : Int) :
    fnSum Try.prog { gam := [(62, S0 fun (_ : Unit) => true), (64, S 25 p), (65, S 27 p)] } [] 20 13 (List.map AV.val [.agg #[.int .i64 x0, .int .i64 x1, .int .i64 x2, .int .i64 x3, .int .i64 x4, .int .i64 x5, .int .i64 x6, .int .i64 x7, .int .i64 x8, .int .i64 x9, .int .i64 x10, .int .i64 x11, .int .i64 x12, .int .i64 x13, .int .i64 x14, .int .i64 x15, .int .i64 x16, .int .i64 x17, .int .i64 x18, .int .i64 x19, .int .i64 x20, .int .i64 x21, .int .i64 x22, .int .i64 x23, .int .i64 x24, .int .i64 x25, .int .i64 x26, .int .i64 x27, .int .i64 x28, .int .i64 x29, .int .i64 x30, .int .i64 x31, .int .i64 x32, .int .i64 x33, .int .i64 x34, .int .i64 x35], .int .i64 n, .bool b]) [] =
      let r := p b (⟨⟨x0, x1, x2, x3, x4, x5⟩, ⟨x6, x7, x8, x9, x10, x11⟩, ⟨x12, x13, x14, x15, x16, x17⟩, ⟨x18, x19, x20, x21, x22, x23⟩, ⟨x24, x25, x26, x27, x28, x29⟩, ⟨x30, x31, x32, x33, x34, x35⟩⟩, n, ())
      bif m6b r.1 r.1 then say (r.2 == r.2) else sayF := by kernel_rfl
set_option maxRecDepth 8000 in
theorem MatRoot_calls (x0 x1 x2 x3 x4 x5 x6 x7 x8 x9 x10 x11 x12 x13 x14 x15 x16 x17 x18 x19 x20 x21 x22 x23 x24 x25 x26 x27 x28 x29 x30 x31 x32 x33 x34 x35 n : Int) (b : Bool) (w : World) : Calls Try.prog 13 #[.agg #[.int .i64 x0, .int .i64 x1, .int .i64 x2, .int .i64 x3, .int .i64 x4, .int .i64 x5, .int .i64 x6, .int .i64 x7, .int .i64 x8, .int .i64 x9, .int .i64 x10, .int .i64 x11, .int .i64 x12, .int .i64 x13, .int .i64 x14, .int .i64 x15, .int .i64 x16, .int .i64 x17, .int .i64 x18, .int .i64 x19, .int .i64 x20, .int .i64 x21, .int .i64 x22, .int .i64 x23, .int .i64 x24, .int .i64 x25, .int .i64 x26, .int .i64 x27, .int .i64 x28, .int .i64 x29, .int .i64 x30, .int .i64 x31, .int .i64 x32, .int .i64 x33, .int .i64 x34, .int .i64 x35], .int .i64 n, .bool b] w fun e w' => e = .returned (.bool true) ∧ RowKit.Below w.heap.size w w' := by
  have hG : GamOk Try.prog [(62, S0 fun (_ : Unit) => true), (64, S 25 (matRootN opsF)), (65, S 27 (matRootN opsF))] := .cons ok62 (.cons ok64 (.cons ok65 .nil))
  have e := law13 (matRootN opsF) b n x0 x1 x2 x3 x4 x5 x6 x7 x8 x9 x10 x11 x12 x13 x14 x15 x16 x17 x18 x19 x20 x21 x22 x23 x24 x25 x26 x27 x28 x29 x30 x31 x32 x33 x34 x35
  dsimp only at e
  rw [m6b_self, cond_true, say, BEq.rfl] at e
  exact calls_of_sum hG e w
end Go.Ab
