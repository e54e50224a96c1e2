/- A part of the proof of 'BdotSteps': lemmas, no statement of their own; no condition. -/
import Derived.Test.YtgccejhdohpojaaBsB
/- BdotSteps: one field more is the document's. -/
namespace Go.Ab
open Go Go.Proofs
theorem i64_of {x : Int} (h : (Lit.int .i64 x).wf = true) : i64? x = true := by
  simp only [Lit.wf, Bool.and_eq_true, decide_eq_true_eq] at h
  have e1 : IntKind.i64.min = -9223372036854775808 := rfl
  have e2 : IntKind.i64.max = 9223372036854775807 := rfl
  rw [e1, e2] at h
  simp only [i64?, decide_eq_true_eq]
  omega
theorem BdotSteps_calls (on : Bool) (t a0 a1 a2 x0 x1 x2 u0 u1 u2 tk : Int) (ht : (Lit.int .i64 t).wf = true) (_ : (Lit.int .i64 a0).wf = true) (_ : (Lit.int .i64 a1).wf = true) (_ : (Lit.int .i64 a2).wf = true) (_ : (Lit.int .i64 x0).wf = true) (_ : (Lit.int .i64 x1).wf = true) (_ : (Lit.int .i64 x2).wf = true)
    (_ : (Lit.int .i64 u0).wf = true) (_ : (Lit.int .i64 u1).wf = true) (_ : (Lit.int .i64 u2).wf = true) (htk : (Lit.int .i64 tk).wf = true) (w : World) :
    Calls Try.prog 9 #[.agg #[.bool on, .int .i64 t, .int .i64 a0, .int .i64 a1, .int .i64 a2, .int .i64 x0, .int .i64 x1, .int .i64 x2], .agg #[.int .i64 u0, .int .i64 u1, .int .i64 u2], .int .i64 tk] w fun e w' => e = .returned (.bool true) ∧ RowKit.Below w.heap.size w w' := by
  have hG : GamOk Try.prog [(57, S0 fun (_ : Unit) => true), (58, Sc 25 stepPre stepV), (59, Sc 27 stepPre stepV)] := .cons ok57 (.cons ok58 (.cons ok59 .nil))
  refine calls_of_sum (E := { gam := [(57, S0 fun (_ : Unit) => true), (58, Sc 25 stepPre stepV), (59, Sc 27 stepPre stepV)] }) hG (d := 20) (f := 9) (vals := [.agg #[.bool on, .int .i64 t, .int .i64 a0, .int .i64 a1, .int .i64 a2, .int .i64 x0, .int .i64 x1, .int .i64 x2], .agg #[.int .i64 u0, .int .i64 u1, .int .i64 u2], .int .i64 tk]) ?_ w
  rw [law9]
  have hp : stepPre (⟨on, t, ⟨a0, a1, a2⟩, ⟨x0, x1, x2⟩⟩, ⟨u0, u1, u2⟩, tk, ()) = true := by simp [stepPre, i64_of ht, i64_of htk]
  simp [hp, drb_self, say]
end Go.Ab
