/- A part of the proof of 'VecScale': lemmas, no statement of their own; no condition. -/
import Derived.Test.YtgccejhdohpojaaVcA
import Derived.Test.YtgccejhdohpojaaFxB
import Derived.Test.YtgccejhdohpojaaProg
import Derived.KernelRfl
namespace Go.Ab
open Go Go.Proofs
def gamA (o : Ops) : Gam := [(124, S 25 (op2 o.add)), (127, S 25 (op2 o.sub)), (125, S 27 (op2 o.add)), (128, S 27 (op2 o.sub))]
theorem awake03 : fnSum Try.prog {gam := []} [] 50 42 [] [] = some (.val (.bool true), []) := by kernel_rfl
theorem ok42 : SumOk Try.prog 42 (S0 fun (_ : Unit) => true) := S0_ok (E := { gam := [] }) GamOk.nil 50 fun _ => awake03
theorem add50 (o : Ops) (b : Bool) (u v : V3) : fnSum Try.prog {gam := gamA o} [] 20 50 [.ptr 0 0, .val (Cod.enc u), .val (Cod.enc v)] (row 25 b) =
    some (.val (Cod.enc (vop o.add b (u, v, ())).1), row 25 (vop o.add b (u, v, ())).2) := by
  refine Eq.trans (?_ : _ = bif (vop o.add b (u, v, ())).2 then some (.val (Cod.enc V3.zero), row 25 (vop o.add b (u, v, ())).2) else some (.val (Cod.enc (each3 b (fun b => o.add b u.x v.x) (fun b => o.add b u.y v.y) (fun b => o.add b u.z v.z)).1), row 25 (vop o.add b (u, v, ())).2)) pull
  kernel_rfl
theorem add51 (o : Ops) (b : Bool) (u v : V3) : fnSum Try.prog {gam := gamA o} [] 20 51 [.ptr 0 0, .val (Cod.enc u), .val (Cod.enc v)] (row 27 b) =
    some (.val (Cod.enc (vop o.add b (u, v, ())).1), row 27 (vop o.add b (u, v, ())).2) := by
  refine Eq.trans (?_ : _ = bif (vop o.add b (u, v, ())).2 then some (.val (Cod.enc V3.zero), row 27 (vop o.add b (u, v, ())).2) else some (.val (Cod.enc (each3 b (fun b => o.add b u.x v.x) (fun b => o.add b u.y v.y) (fun b => o.add b u.z v.z)).1), row 27 (vop o.add b (u, v, ())).2)) pull
  kernel_rfl
theorem sub52 (o : Ops) (b : Bool) (u v : V3) : fnSum Try.prog {gam := gamA o} [] 20 52 [.ptr 0 0, .val (Cod.enc u), .val (Cod.enc v)] (row 25 b) =
    some (.val (Cod.enc (vop o.sub b (u, v, ())).1), row 25 (vop o.sub b (u, v, ())).2) := by
  refine Eq.trans (?_ : _ = bif (vop o.sub b (u, v, ())).2 then some (.val (Cod.enc V3.zero), row 25 (vop o.sub b (u, v, ())).2) else some (.val (Cod.enc (each3 b (fun b => o.sub b u.x v.x) (fun b => o.sub b u.y v.y) (fun b => o.sub b u.z v.z)).1), row 25 (vop o.sub b (u, v, ())).2)) pull
  kernel_rfl
theorem sub53 (o : Ops) (b : Bool) (u v : V3) : fnSum Try.prog {gam := gamA o} [] 20 53 [.ptr 0 0, .val (Cod.enc u), .val (Cod.enc v)] (row 27 b) =
    some (.val (Cod.enc (vop o.sub b (u, v, ())).1), row 27 (vop o.sub b (u, v, ())).2) := by
  refine Eq.trans (?_ : _ = bif (vop o.sub b (u, v, ())).2 then some (.val (Cod.enc V3.zero), row 27 (vop o.sub b (u, v, ())).2) else some (.val (Cod.enc (each3 b (fun b => o.sub b u.x v.x) (fun b => o.sub b u.y v.y) (fun b => o.sub b u.z v.z)).1), row 27 (vop o.sub b (u, v, ())).2)) pull
  kernel_rfl
def gamVA (p q : Bool → V3 × V3 × Unit → V3 × Bool) : Gam := [(42, S0 fun (_ : Unit) => true), (50, S 25 p), (51, S 27 p), (52, S 25 q), (53, S 27 q)]
theorem sums6 (p q : Bool → V3 × V3 × Unit → V3 × Bool) (b : Bool) (x0 x1 x2 y0 y1 y2 : Int) :
    fnSum Try.prog {gam := gamVA p q} [] 20 6 (List.map AV.val [.agg #[.int .i64 x0, .int .i64 x1, .int .i64 x2], .agg #[.int .i64 y0, .int .i64 y1, .int .i64 y2], .bool b]) [] =
      bif v3b (p b (⟨x0, x1, x2⟩, ⟨y0, y1, y2⟩, ())).1 (p b (⟨x0, x1, x2⟩, ⟨y0, y1, y2⟩, ())).1 then
        bif (p b (⟨x0, x1, x2⟩, ⟨y0, y1, y2⟩, ())).2 == (p b (⟨x0, x1, x2⟩, ⟨y0, y1, y2⟩, ())).2 then
          bif v3b (q b (⟨x0, x1, x2⟩, ⟨y0, y1, y2⟩, ())).1 (q b (⟨x0, x1, x2⟩, ⟨y0, y1, y2⟩, ())).1 then say ((q b (⟨x0, x1, x2⟩, ⟨y0, y1, y2⟩, ())).2 == (q b (⟨x0, x1, x2⟩, ⟨y0, y1, y2⟩, ())).2) else sayF
        else sayF
      else sayF := by kernel_rfl
def ops0 : Ops := { add := fadd, sub := fsub, mul := fun _ _ _ => (0, true), div := fun _ _ _ => (0, true), mod := fun _ _ _ => (0, true), part := fun _ _ _ _ => (0, true), norm := fun _ _ _ _ => (0, true), sqrt := fun _ _ => (0, true) }
theorem gamA_ok : GamOk Try.prog (gamA ops0) := .cons ok124 (.cons ok127 (.cons ok125 (.cons ok128 .nil)))
theorem VecSums_calls (x0 x1 x2 y0 y1 y2 : Int) (b : Bool) (w : World) :
    Calls Try.prog 6 #[.agg #[.int .i64 x0, .int .i64 x1, .int .i64 x2], .agg #[.int .i64 y0, .int .i64 y1, .int .i64 y2], .bool b] w fun e w' => e = .returned (.bool true) ∧ RowKit.Below w.heap.size w w' := by
  have h50 : SumOk Try.prog 50 (S 25 (vop fadd)) := S_ok gamA_ok 20 fun b a => add50 ops0 b a.1 a.2.1
  have h51 : SumOk Try.prog 51 (S 27 (vop fadd)) := S_ok gamA_ok 20 fun b a => add51 ops0 b a.1 a.2.1
  have h52 : SumOk Try.prog 52 (S 25 (vop fsub)) := S_ok gamA_ok 20 fun b a => sub52 ops0 b a.1 a.2.1
  have h53 : SumOk Try.prog 53 (S 27 (vop fsub)) := S_ok gamA_ok 20 fun b a => sub53 ops0 b a.1 a.2.1
  have hG : GamOk Try.prog (gamVA (vop fadd) (vop fsub)) := .cons ok42 (.cons h50 (.cons h51 (.cons h52 (.cons h53 .nil))))
  refine calls_of_sum (E := { gam := gamVA (vop fadd) (vop fsub) }) hG (d := 20) (f := 6) (vals := [.agg #[.int .i64 x0, .int .i64 x1, .int .i64 x2], .agg #[.int .i64 y0, .int .i64 y1, .int .i64 y2], .bool b]) ?_ w
  rw [sums6]
  simp [v3b_self, say]
end Go.Ab
