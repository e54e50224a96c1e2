/- A part of the proof of 'MatSolved': lemmas, no statement of their own; no condition. -/
import Derived.Test.YtgccejhdohpojaaQtAll
/- QuatUnit, QuatRod, QuatTurn, QuatMul: the program's and the document's. -/
namespace Go.Ab
open Go Go.Proofs
theorem law17 (p : Bool → V4 × Unit → V4 × Bool) (b : Bool) (q0 q1 q2 q3 : Int) :
    fnSum Try.prog { gam := [(70, S0 fun (_ : Unit) => true), (72, S 25 p), (73, S 27 p)] } [] 20 17 (List.map AV.val [.agg #[.int .i64 q0, .int .i64 q1, .int .i64 q2, .int .i64 q3], .bool b]) [] =
      bif v4b (p b (⟨q0, q1, q2, q3⟩, ())).1 (p b (⟨q0, q1, q2, q3⟩, ())).1 then say ((p b (⟨q0, q1, q2, q3⟩, ())).2 == (p b (⟨q0, q1, q2, q3⟩, ())).2) else sayF := by kernel_rfl
theorem law24 (p : Bool → V4 × V3 × Unit → V3 × Bool) (b : Bool) (q0 q1 q2 q3 x0 x1 x2 : Int) :
    fnSum Try.prog { gam := [(70, S0 fun (_ : Unit) => true), (87, S 25 p), (88, S 27 p)] } [] 20 24 (List.map AV.val [.agg #[.int .i64 q0, .int .i64 q1, .int .i64 q2, .int .i64 q3], .agg #[.int .i64 x0, .int .i64 x1, .int .i64 x2], .bool b]) [] =
      bif v3b (p b (⟨q0, q1, q2, q3⟩, ⟨x0, x1, x2⟩, ())).1 (p b (⟨q0, q1, q2, q3⟩, ⟨x0, x1, x2⟩, ())).1 then say ((p b (⟨q0, q1, q2, q3⟩, ⟨x0, x1, x2⟩, ())).2 == (p b (⟨q0, q1, q2, q3⟩, ⟨x0, x1, x2⟩, ())).2) else sayF := by kernel_rfl
theorem law26 (p : Bool → V4 × V4 × Unit → V4 × Bool) (k : V4 × Unit → V4) (b : Bool) (q0 q1 q2 q3 x0 x1 x2 x3 : Int) :
    fnSum Try.prog { gam := [(70, S0 fun (_ : Unit) => true), (92, S 25 p), (93, S 27 p), (91, S0 k), (94, S0 k)] } [] 20 26 (List.map AV.val [.agg #[.int .i64 q0, .int .i64 q1, .int .i64 q2, .int .i64 q3], .agg #[.int .i64 x0, .int .i64 x1, .int .i64 x2, .int .i64 x3], .bool b]) [] =
      bif v4b (p b (⟨q0, q1, q2, q3⟩, ⟨x0, x1, x2, x3⟩, ())).1 (p b (⟨q0, q1, q2, q3⟩, ⟨x0, x1, x2, x3⟩, ())).1 then
        bif (p b (⟨q0, q1, q2, q3⟩, ⟨x0, x1, x2, x3⟩, ())).2 == (p b (⟨q0, q1, q2, q3⟩, ⟨x0, x1, x2, x3⟩, ())).2 then say (v4b (k (⟨q0, q1, q2, q3⟩, ())) (k (⟨q0, q1, q2, q3⟩, ()))) else sayF
      else sayF := by kernel_rfl
theorem law21 (p : Bool → V3 × Unit → V4 × Bool) (k : Bool → V4 × Unit → V3 × Bool) (b : Bool) (q0 q1 q2 q3 x0 x1 x2 : Int) :
    fnSum Try.prog { gam := [(70, S0 fun (_ : Unit) => true), (80, S 25 p), (81, S 27 p), (82, S 25 k), (83, S 27 k)] } [] 20 21 (List.map AV.val [.agg #[.int .i64 q0, .int .i64 q1, .int .i64 q2, .int .i64 q3], .agg #[.int .i64 x0, .int .i64 x1, .int .i64 x2], .bool b]) [] =
      bif v4b (p b (⟨x0, x1, x2⟩, ())).1 (p b (⟨x0, x1, x2⟩, ())).1 then
        bif (p b (⟨x0, x1, x2⟩, ())).2 == (p b (⟨x0, x1, x2⟩, ())).2 then
          bif v3b (k b (⟨q0, q1, q2, q3⟩, ())).1 (k b (⟨q0, q1, q2, q3⟩, ())).1 then say ((k b (⟨q0, q1, q2, q3⟩, ())).2 == (k b (⟨q0, q1, q2, q3⟩, ())).2) else sayF
        else sayF
      else sayF := by kernel_rfl
theorem QuatUnit_calls (q0 q1 q2 q3 : Int) (b : Bool) (w : World) : Calls Try.prog 17 #[.agg #[.int .i64 q0, .int .i64 q1, .int .i64 q2, .int .i64 q3], .bool b] w fun e w' => e = .returned (.bool true) ∧ RowKit.Below w.heap.size w w' := by
  have hG : GamOk Try.prog [(70, S0 fun (_ : Unit) => true), (72, S 25 (qunit opsF)), (73, S 27 (qunit opsF))] := .cons ok70 (.cons ok72 (.cons ok73 .nil))
  refine calls_of_sum (E := { gam := [(70, S0 fun (_ : Unit) => true), (72, S 25 (qunit opsF)), (73, S 27 (qunit opsF))] }) hG (d := 20) (f := 17) (vals := [.agg #[.int .i64 q0, .int .i64 q1, .int .i64 q2, .int .i64 q3], .bool b]) ?_ w
  rw [law17]
  simp [v4b_self, say]
theorem QuatTurn_calls (q0 q1 q2 q3 x0 x1 x2 : Int) (b : Bool) (w : World) : Calls Try.prog 24 #[.agg #[.int .i64 q0, .int .i64 q1, .int .i64 q2, .int .i64 q3], .agg #[.int .i64 x0, .int .i64 x1, .int .i64 x2], .bool b] w fun e w' => e = .returned (.bool true) ∧ RowKit.Below w.heap.size w w' := by
  have hG : GamOk Try.prog [(70, S0 fun (_ : Unit) => true), (87, S 25 (qturn vopsF)), (88, S 27 (qturn vopsF))] := .cons ok70 (.cons ok87 (.cons ok88 .nil))
  refine calls_of_sum (E := { gam := [(70, S0 fun (_ : Unit) => true), (87, S 25 (qturn vopsF)), (88, S 27 (qturn vopsF))] }) hG (d := 20) (f := 24) (vals := [.agg #[.int .i64 q0, .int .i64 q1, .int .i64 q2, .int .i64 q3], .agg #[.int .i64 x0, .int .i64 x1, .int .i64 x2], .bool b]) ?_ w
  rw [law24]
  simp [v3b_self, say]
theorem QuatMul_calls (q0 q1 q2 q3 x0 x1 x2 x3 : Int) (b : Bool) (w : World) : Calls Try.prog 26 #[.agg #[.int .i64 q0, .int .i64 q1, .int .i64 q2, .int .i64 q3], .agg #[.int .i64 x0, .int .i64 x1, .int .i64 x2, .int .i64 x3], .bool b] w fun e w' => e = .returned (.bool true) ∧ RowKit.Below w.heap.size w w' := by
  have hG : GamOk Try.prog [(70, S0 fun (_ : Unit) => true), (92, S 25 qmul), (93, S 27 qmul), (91, S0 qback), (94, S0 qback)] := .cons ok70 (.cons ok92 (.cons ok93 (.cons ok91 (.cons ok94 .nil))))
  refine calls_of_sum (E := { gam := [(70, S0 fun (_ : Unit) => true), (92, S 25 qmul), (93, S 27 qmul), (91, S0 qback), (94, S0 qback)] }) hG (d := 20) (f := 26) (vals := [.agg #[.int .i64 q0, .int .i64 q1, .int .i64 q2, .int .i64 q3], .agg #[.int .i64 x0, .int .i64 x1, .int .i64 x2, .int .i64 x3], .bool b]) ?_ w
  rw [law26]
  simp [v4b_self, say]
theorem QuatRod_calls (q0 q1 q2 q3 x0 x1 x2 : Int) (b : Bool) (w : World) : Calls Try.prog 21 #[.agg #[.int .i64 q0, .int .i64 q1, .int .i64 q2, .int .i64 q3], .agg #[.int .i64 x0, .int .i64 x1, .int .i64 x2], .bool b] w fun e w' => e = .returned (.bool true) ∧ RowKit.Below w.heap.size w w' := by
  have hG : GamOk Try.prog [(70, S0 fun (_ : Unit) => true), (80, S 25 (fromRod opsF vopsF (qunit opsF))), (81, S 27 (fromRod opsF vopsF (qunit opsF))), (82, S 25 (toRod opsF)), (83, S 27 (toRod opsF))] := .cons ok70 (.cons ok80 (.cons ok81 (.cons ok82 (.cons ok83 .nil))))
  refine calls_of_sum (E := { gam := [(70, S0 fun (_ : Unit) => true), (80, S 25 (fromRod opsF vopsF (qunit opsF))), (81, S 27 (fromRod opsF vopsF (qunit opsF))), (82, S 25 (toRod opsF)), (83, S 27 (toRod opsF))] }) hG (d := 20) (f := 21) (vals := [.agg #[.int .i64 q0, .int .i64 q1, .int .i64 q2, .int .i64 q3], .agg #[.int .i64 x0, .int .i64 x1, .int .i64 x2], .bool b]) ?_ w
  rw [law21]
  simp [v3b_self, v4b_self, say]
end Go.Ab
