/- A part of the proof of 'MatSolved': lemmas, no statement of their own; no condition. -/
import Derived.Test.YtgccejhdohpojaaMtH
/- mat's awake; MatRoot: roots are the document's. -/
namespace Go.Ab
open Go Go.Proofs
def eqI : List Int → List Int → Bool
  | a :: r, b :: t => a == b && eqI r t
  | _, _ => true
theorem eqI_self : ∀ l : List Int, eqI l l = true
  | [] => rfl
  | a :: r => by simp [eqI, eqI_self r]
def R6.ints (r : R6) : List Int := [r.a, r.b, r.c, r.d, r.e, r.f]
def r6b (a b : R6) : Bool := eqI a.ints b.ints
def m6b (a b : M6) : Bool := r6b a.a b.a && (r6b a.b b.b && (r6b a.c b.c && (r6b a.d b.d && (r6b a.e b.e && (r6b a.f b.f && true)))))
theorem r6b_self (a : R6) : r6b a a = true := eqI_self _
theorem m6b_self (a : M6) : m6b a a = true := by simp [m6b, r6b_self]
def mAwake : M6 := ⟨⟨4398046511104, 0, 0, 0, 0, 0⟩, ⟨2199023255552, 5497558138880, 0, 0, 0, 0⟩, R6.zero, R6.zero, R6.zero, R6.zero⟩
def mAwakeR : M6 := ⟨⟨2199023255552, 0, 0, 0, 0, 0⟩, ⟨1099511627776, 2199023255552, 0, 0, 0, 0⟩, R6.zero, R6.zero, R6.zero, R6.zero⟩
theorem awake62 (p : Bool → M6 × Int × Unit → M6 × Bool) : fnSum Try.prog { gam := [(64, S 25 p)] } [] 50 62 [] [] =
    bif m6b (p false (mAwake, 2, ())).1 mAwakeR then say (!(p false (mAwake, 2, ())).2) else sayF := by kernel_rfl
theorem rootSelf : matRootN opsF false (mAwake, 2, ()) = (mAwakeR, false) := by kernel_rfl
theorem ok62 : SumOk Try.prog 62 (S0 fun (_ : Unit) => true) := S0_ok (E := { gam := [(64, S 25 (matRootN opsF))] }) (.cons ok64 .nil) 50 fun _ => by
  refine (awake62 (matRootN opsF)).trans ?_
  rw [rootSelf, m6b_self]
  rfl
end Go.Ab
