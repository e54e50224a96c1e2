/- A part of the proof of 'MatSolved': lemmas, no statement of their own; no condition. -/
import Derived.Test.YtgccejhdohpojaaMtC
/- apply: trees of both packages, for each count. -/
namespace Go.Ab
open Go Go.Proofs
theorem apply85_1 (o : Ops) (b : Bool) (m : M6) (y : R6) : fnSum Try.prog { gam := gamN o } [] 20 85 [.ptr 0 0, .val (Cod.enc m), .val (Cod.enc y), .val (.int .i64 1)] (row 25 b) = applyT o 25 b m y 1 := by kernel_rfl
theorem apply85_2 (o : Ops) (b : Bool) (m : M6) (y : R6) : fnSum Try.prog { gam := gamN o } [] 20 85 [.ptr 0 0, .val (Cod.enc m), .val (Cod.enc y), .val (.int .i64 2)] (row 25 b) = applyT o 25 b m y 2 := by kernel_rfl
theorem apply85_3 (o : Ops) (b : Bool) (m : M6) (y : R6) : fnSum Try.prog { gam := gamN o } [] 20 85 [.ptr 0 0, .val (Cod.enc m), .val (Cod.enc y), .val (.int .i64 3)] (row 25 b) = applyT o 25 b m y 3 := by kernel_rfl
theorem apply85_4 (o : Ops) (b : Bool) (m : M6) (y : R6) : fnSum Try.prog { gam := gamN o } [] 20 85 [.ptr 0 0, .val (Cod.enc m), .val (Cod.enc y), .val (.int .i64 4)] (row 25 b) = applyT o 25 b m y 4 := by kernel_rfl
theorem apply85_5 (o : Ops) (b : Bool) (m : M6) (y : R6) : fnSum Try.prog { gam := gamN o } [] 20 85 [.ptr 0 0, .val (Cod.enc m), .val (Cod.enc y), .val (.int .i64 5)] (row 25 b) = applyT o 25 b m y 5 := by kernel_rfl
theorem apply85_6 (o : Ops) (b : Bool) (m : M6) (y : R6) : fnSum Try.prog { gam := gamN o } [] 20 85 [.ptr 0 0, .val (Cod.enc m), .val (Cod.enc y), .val (.int .i64 6)] (row 25 b) = applyT o 25 b m y 6 := by kernel_rfl
theorem apply86_1 (o : Ops) (b : Bool) (m : M6) (y : R6) : fnSum Try.prog { gam := gamN o } [] 20 86 [.ptr 0 0, .val (Cod.enc m), .val (Cod.enc y), .val (.int .i64 1)] (row 27 b) = applyT o 27 b m y 1 := by kernel_rfl
theorem apply86_2 (o : Ops) (b : Bool) (m : M6) (y : R6) : fnSum Try.prog { gam := gamN o } [] 20 86 [.ptr 0 0, .val (Cod.enc m), .val (Cod.enc y), .val (.int .i64 2)] (row 27 b) = applyT o 27 b m y 2 := by kernel_rfl
theorem apply86_3 (o : Ops) (b : Bool) (m : M6) (y : R6) : fnSum Try.prog { gam := gamN o } [] 20 86 [.ptr 0 0, .val (Cod.enc m), .val (Cod.enc y), .val (.int .i64 3)] (row 27 b) = applyT o 27 b m y 3 := by kernel_rfl
theorem apply86_4 (o : Ops) (b : Bool) (m : M6) (y : R6) : fnSum Try.prog { gam := gamN o } [] 20 86 [.ptr 0 0, .val (Cod.enc m), .val (Cod.enc y), .val (.int .i64 4)] (row 27 b) = applyT o 27 b m y 4 := by kernel_rfl
theorem apply86_5 (o : Ops) (b : Bool) (m : M6) (y : R6) : fnSum Try.prog { gam := gamN o } [] 20 86 [.ptr 0 0, .val (Cod.enc m), .val (Cod.enc y), .val (.int .i64 5)] (row 27 b) = applyT o 27 b m y 5 := by kernel_rfl
theorem apply86_6 (o : Ops) (b : Bool) (m : M6) (y : R6) : fnSum Try.prog { gam := gamN o } [] 20 86 [.ptr 0 0, .val (Cod.enc m), .val (Cod.enc y), .val (.int .i64 6)] (row 27 b) = applyT o 27 b m y 6 := by kernel_rfl
end Go.Ab
