/- A part of the proof of 'VecScale': lemmas, no statement of their own; no condition. -/
import Derived.Test.YtgccejhdohpojaaVcA
import Derived.Test.YtgccejhdohpojaaFxQ
import Derived.Test.YtgccejhdohpojaaLvSums
namespace Go.Ab
open Go Go.Proofs
def vscale (g : Bool → Int → Int → Int × Bool) (b : Bool) (p : V3 × Int × Unit) : V3 × Bool :=
  done3 (each3 b (fun b => g b p.1.x p.2.1) (fun b => g b p.1.y p.2.1) (fun b => g b p.1.z p.2.1))
theorem scale44 (g : Bool → Int → Int → Int × Bool) (b : Bool) (u : V3) (k : Int) : fnSum Try.prog { gam := [(121, S 25 (op2 g))] } [] 20 44 [.ptr 0 0, .val (Cod.enc u), .val (.int .i64 k)] (row 25 b) =
    some (.val (Cod.enc (vscale g b (u, k, ())).1), row 25 (vscale g b (u, k, ())).2) := by
  refine Eq.trans (?_ : _ = bif (vscale g b (u, k, ())).2 then some (.val (Cod.enc V3.zero), row 25 (vscale g b (u, k, ())).2) else some (.val (Cod.enc (each3 b (fun b => g b u.x k) (fun b => g b u.y k) (fun b => g b u.z k)).1), row 25 (vscale g b (u, k, ())).2)) pull
  kernel_rfl
theorem scale45 (g : Bool → Int → Int → Int × Bool) (b : Bool) (u : V3) (k : Int) : fnSum Try.prog { gam := [(122, S 27 (op2 g))] } [] 20 45 [.ptr 0 0, .val (Cod.enc u), .val (.int .i64 k)] (row 27 b) =
    some (.val (Cod.enc (vscale g b (u, k, ())).1), row 27 (vscale g b (u, k, ())).2) := by
  refine Eq.trans (?_ : _ = bif (vscale g b (u, k, ())).2 then some (.val (Cod.enc V3.zero), row 27 (vscale g b (u, k, ())).2) else some (.val (Cod.enc (each3 b (fun b => g b u.x k) (fun b => g b u.y k) (fun b => g b u.z k)).1), row 27 (vscale g b (u, k, ())).2)) pull
  kernel_rfl
theorem scale4 (p : Bool → V3 × Int × Unit → V3 × Bool) (b : Bool) (x0 x1 x2 k : Int) :
    fnSum Try.prog { gam := [(42, S0 fun (_ : Unit) => true), (44, S 25 p), (45, S 27 p)] } [] 20 4 (List.map AV.val [.agg #[.int .i64 x0, .int .i64 x1, .int .i64 x2], .int .i64 k, .bool b]) [] =
      bif v3b (p b (⟨x0, x1, x2⟩, k, ())).1 (p b (⟨x0, x1, x2⟩, k, ())).1 then say ((p b (⟨x0, x1, x2⟩, k, ())).2 == (p b (⟨x0, x1, x2⟩, k, ())).2) else sayF := by kernel_rfl
theorem ok44 : SumOk Try.prog 44 (S 25 (vscale fmul)) := S_ok (E := { gam := [(121, S 25 (op2 fmul))] }) (.cons ok121 .nil) 20 fun b a => scale44 fmul b a.1 a.2.1
theorem ok45 : SumOk Try.prog 45 (S 27 (vscale fmul)) := S_ok (E := { gam := [(122, S 27 (op2 fmul))] }) (.cons ok122 .nil) 20 fun b a => scale45 fmul b a.1 a.2.1
theorem VecScale_calls (x0 x1 x2 k : Int) (b : Bool) (w : World) :
    Calls Try.prog 4 #[.agg #[.int .i64 x0, .int .i64 x1, .int .i64 x2], .int .i64 k, .bool b] w fun e w' => e = .returned (.bool true) ∧ RowKit.Below w.heap.size w w' := by
  have hG : GamOk Try.prog [(42, S0 fun (_ : Unit) => true), (44, S 25 (vscale fmul)), (45, S 27 (vscale fmul))] := .cons ok42 (.cons ok44 (.cons ok45 .nil))
  refine calls_of_sum (E := { gam := [(42, S0 fun (_ : Unit) => true), (44, S 25 (vscale fmul)), (45, S 27 (vscale fmul))] }) hG (d := 20) (f := 4) (vals := [.agg #[.int .i64 x0, .int .i64 x1, .int .i64 x2], .int .i64 k, .bool b]) ?_ w
  rw [scale4]
  simp [v3b_self, say]
end Go.Ab
