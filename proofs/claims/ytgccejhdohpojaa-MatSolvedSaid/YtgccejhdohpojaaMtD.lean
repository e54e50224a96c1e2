/- A part of the proof of 'MatSolved': lemmas, no statement of their own; no condition. -/
import Derived.Test.YtgccejhdohpojaaMtC
/- solve: trees of both packages, for each count. -/
namespace Go.Ab
open Go Go.Proofs
theorem solve76_1 (o : Ops) (b : Bool) (m : M6) (y : R6) : fnSum Try.prog { gam := gamN o } [] 20 76 [.ptr 0 0, .val (Cod.enc m), .val (Cod.enc y), .val (.int .i64 1)] (row 25 b) = solveT o 25 b m y 1 := by kernel_rfl
theorem solve76_2 (o : Ops) (b : Bool) (m : M6) (y : R6) : fnSum Try.prog { gam := gamN o } [] 20 76 [.ptr 0 0, .val (Cod.enc m), .val (Cod.enc y), .val (.int .i64 2)] (row 25 b) = solveT o 25 b m y 2 := by kernel_rfl
theorem solve76_3 (o : Ops) (b : Bool) (m : M6) (y : R6) : fnSum Try.prog { gam := gamN o } [] 20 76 [.ptr 0 0, .val (Cod.enc m), .val (Cod.enc y), .val (.int .i64 3)] (row 25 b) = solveT o 25 b m y 3 := by kernel_rfl
theorem solve76_4 (o : Ops) (b : Bool) (m : M6) (y : R6) : fnSum Try.prog { gam := gamN o } [] 20 76 [.ptr 0 0, .val (Cod.enc m), .val (Cod.enc y), .val (.int .i64 4)] (row 25 b) = solveT o 25 b m y 4 := by kernel_rfl
theorem solve76_5 (o : Ops) (b : Bool) (m : M6) (y : R6) : fnSum Try.prog { gam := gamN o } [] 20 76 [.ptr 0 0, .val (Cod.enc m), .val (Cod.enc y), .val (.int .i64 5)] (row 25 b) = solveT o 25 b m y 5 := by kernel_rfl
theorem solve76_6 (o : Ops) (b : Bool) (m : M6) (y : R6) : fnSum Try.prog { gam := gamN o } [] 20 76 [.ptr 0 0, .val (Cod.enc m), .val (Cod.enc y), .val (.int .i64 6)] (row 25 b) = solveT o 25 b m y 6 := by kernel_rfl
theorem solve77_1 (o : Ops) (b : Bool) (m : M6) (y : R6) : fnSum Try.prog { gam := gamN o } [] 20 77 [.ptr 0 0, .val (Cod.enc m), .val (Cod.enc y), .val (.int .i64 1)] (row 27 b) = solveT o 27 b m y 1 := by kernel_rfl
theorem solve77_2 (o : Ops) (b : Bool) (m : M6) (y : R6) : fnSum Try.prog { gam := gamN o } [] 20 77 [.ptr 0 0, .val (Cod.enc m), .val (Cod.enc y), .val (.int .i64 2)] (row 27 b) = solveT o 27 b m y 2 := by kernel_rfl
theorem solve77_3 (o : Ops) (b : Bool) (m : M6) (y : R6) : fnSum Try.prog { gam := gamN o } [] 20 77 [.ptr 0 0, .val (Cod.enc m), .val (Cod.enc y), .val (.int .i64 3)] (row 27 b) = solveT o 27 b m y 3 := by kernel_rfl
theorem solve77_4 (o : Ops) (b : Bool) (m : M6) (y : R6) : fnSum Try.prog { gam := gamN o } [] 20 77 [.ptr 0 0, .val (Cod.enc m), .val (Cod.enc y), .val (.int .i64 4)] (row 27 b) = solveT o 27 b m y 4 := by kernel_rfl
theorem solve77_5 (o : Ops) (b : Bool) (m : M6) (y : R6) : fnSum Try.prog { gam := gamN o } [] 20 77 [.ptr 0 0, .val (Cod.enc m), .val (Cod.enc y), .val (.int .i64 5)] (row 27 b) = solveT o 27 b m y 5 := by kernel_rfl
theorem solve77_6 (o : Ops) (b : Bool) (m : M6) (y : R6) : fnSum Try.prog { gam := gamN o } [] 20 77 [.ptr 0 0, .val (Cod.enc m), .val (Cod.enc y), .val (.int .i64 6)] (row 27 b) = solveT o 27 b m y 6 := by kernel_rfl
end Go.Ab
