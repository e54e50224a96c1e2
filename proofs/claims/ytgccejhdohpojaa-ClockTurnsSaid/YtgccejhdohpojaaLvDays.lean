/- A part of the proof of 'ClockTurns': lemmas, no statement of their own; no condition. -/
import Derived.Test.YtgccejhdohpojaaLvClock
/- ClockDays and ClockTurns: the program's and the document's. -/
namespace Go.Ab
open Go Go.Proofs
theorem law3 (dy : Bool → Int × Unit → Int × Bool) (rt : Int × Unit → Bool) (b : Bool) (t : Int) :
    fnSum Try.prog { gam := [(37, S0 fun (_ : Unit) => true), (38, S 25 dy), (39, S 27 dy), (40, S0 rt), (41, S0 rt)] } [] 20 3 (List.map AV.val [.int .i64 t, .bool b]) [] =
      bif (dy b (t, ())).1 == (dy b (t, ())).1 then bif (dy b (t, ())).2 == (dy b (t, ())).2 then say (rt (t, ()) == rt (t, ())) else sayF else sayF := by kernel_rfl
theorem law7 (tu : Bool → Int × Unit → Int × Bool) (b : Bool) (t : Int) :
    fnSum Try.prog { gam := [(37, S0 fun (_ : Unit) => true), (54, S 25 tu), (55, S 27 tu)] } [] 20 7 (List.map AV.val [.int .i64 t, .bool b]) [] =
      bif (tu b (t, ())).1 == (tu b (t, ())).1 then say ((tu b (t, ())).2 == (tu b (t, ())).2) else sayF := by kernel_rfl
theorem ClockDays_calls (t : Int) (b : Bool) (w : World) : Calls Try.prog 3 #[.int .i64 t, .bool b] w fun e w' => e = .returned (.bool true) ∧ RowKit.Below w.heap.size w w' := by
  have hG : GamOk Try.prog [(37, S0 fun (_ : Unit) => true), (38, S 25 (vdays opsF)), (39, S 27 (vdays opsF)), (40, S0 fun p : Int × Unit => isTick p.1), (41, S0 fun p : Int × Unit => isTick p.1)] := .cons ok37 (.cons ok38 (.cons ok39 (.cons ok40 (.cons ok41 .nil))))
  refine calls_of_sum (E := { gam := [(37, S0 fun (_ : Unit) => true), (38, S 25 (vdays opsF)), (39, S 27 (vdays opsF)), (40, S0 fun p : Int × Unit => isTick p.1), (41, S0 fun p : Int × Unit => isTick p.1)] }) hG (d := 20) (f := 3) (vals := [.int .i64 t, .bool b]) ?_ w
  rw [law3]
  simp [say]
theorem ClockTurns_calls (t : Int) (b : Bool) (w : World) : Calls Try.prog 7 #[.int .i64 t, .bool b] w fun e w' => e = .returned (.bool true) ∧ RowKit.Below w.heap.size w w' := by
  have hG : GamOk Try.prog [(37, S0 fun (_ : Unit) => true), (54, S 25 (vturn opsF (vdays opsF))), (55, S 27 (vturn opsF (vdays opsF)))] := .cons ok37 (.cons ok54 (.cons ok55 .nil))
  refine calls_of_sum (E := { gam := [(37, S0 fun (_ : Unit) => true), (54, S 25 (vturn opsF (vdays opsF))), (55, S 27 (vturn opsF (vdays opsF)))] }) hG (d := 20) (f := 7) (vals := [.int .i64 t, .bool b]) ?_ w
  rw [law7]
  simp [say]
end Go.Ab
