/- A part of the proof of 'MatSolved': lemmas, no statement of their own; no condition. -/
import Derived.Test.YtgccejhdohpojaaMtC
/- square: trees of both packages, for each count. -/
namespace Go.Ab
open Go Go.Proofs
theorem square79_1 (o : Ops) (b : Bool) (m : M6) : fnSum Try.prog { gam := gamN o } [] 20 79 [.ptr 0 0, .val (Cod.enc m), .val (.int .i64 1)] (row 25 b) = squareT o 25 b m 1 := by kernel_rfl
theorem square79_2 (o : Ops) (b : Bool) (m : M6) : fnSum Try.prog { gam := gamN o } [] 20 79 [.ptr 0 0, .val (Cod.enc m), .val (.int .i64 2)] (row 25 b) = squareT o 25 b m 2 := by kernel_rfl
theorem square79_3 (o : Ops) (b : Bool) (m : M6) : fnSum Try.prog { gam := gamN o } [] 20 79 [.ptr 0 0, .val (Cod.enc m), .val (.int .i64 3)] (row 25 b) = squareT o 25 b m 3 := by kernel_rfl
theorem square79_4 (o : Ops) (b : Bool) (m : M6) : fnSum Try.prog { gam := gamN o } [] 20 79 [.ptr 0 0, .val (Cod.enc m), .val (.int .i64 4)] (row 25 b) = squareT o 25 b m 4 := by kernel_rfl
theorem square79_5 (o : Ops) (b : Bool) (m : M6) : fnSum Try.prog { gam := gamN o } [] 20 79 [.ptr 0 0, .val (Cod.enc m), .val (.int .i64 5)] (row 25 b) = squareT o 25 b m 5 := by kernel_rfl
theorem square84_1 (o : Ops) (b : Bool) (m : M6) : fnSum Try.prog { gam := gamN o } [] 20 84 [.ptr 0 0, .val (Cod.enc m), .val (.int .i64 1)] (row 27 b) = squareT o 27 b m 1 := by kernel_rfl
theorem square84_2 (o : Ops) (b : Bool) (m : M6) : fnSum Try.prog { gam := gamN o } [] 20 84 [.ptr 0 0, .val (Cod.enc m), .val (.int .i64 2)] (row 27 b) = squareT o 27 b m 2 := by kernel_rfl
theorem square84_3 (o : Ops) (b : Bool) (m : M6) : fnSum Try.prog { gam := gamN o } [] 20 84 [.ptr 0 0, .val (Cod.enc m), .val (.int .i64 3)] (row 27 b) = squareT o 27 b m 3 := by kernel_rfl
theorem square84_4 (o : Ops) (b : Bool) (m : M6) : fnSum Try.prog { gam := gamN o } [] 20 84 [.ptr 0 0, .val (Cod.enc m), .val (.int .i64 4)] (row 27 b) = squareT o 27 b m 4 := by kernel_rfl
theorem square84_5 (o : Ops) (b : Bool) (m : M6) : fnSum Try.prog { gam := gamN o } [] 20 84 [.ptr 0 0, .val (Cod.enc m), .val (.int .i64 5)] (row 27 b) = squareT o 27 b m 5 := by kernel_rfl
end Go.Ab
