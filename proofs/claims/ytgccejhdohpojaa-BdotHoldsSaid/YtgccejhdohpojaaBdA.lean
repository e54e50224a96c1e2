/- A part of the proof of 'BdotHolds': lemmas, no statement of their own; no condition. -/
import Derived.Test.YtgccejhdohpojaaVcAll
import Derived.Test.YtgccejhdohpojaaBdW
/- The coils' answer: both packages alike. -/
namespace Go.Ab
open Go Go.Proofs
structure Dr where
  on : Bool
  tick : Int
  last : V3
  rate : V3
instance : Cod Dr where
  enc d := .agg #[.bool d.on, .int .i64 d.tick, .int .i64 d.last.x, .int .i64 d.last.y, .int .i64 d.last.z, .int .i64 d.rate.x, .int .i64 d.rate.y, .int .i64 d.rate.z]
  dec v := match v with | .agg ⟨[.bool on, .int .i64 t, .int .i64 a, .int .i64 b, .int .i64 c, .int .i64 x, .int .i64 y, .int .i64 z]⟩ => some ⟨on, t, ⟨a, b, c⟩, ⟨x, y, z⟩⟩ | _ => none
  law v a h := by split at h <;> simp_all; subst h; simp
def clip (x : Int) : Int := if (219902325555 : Int) < (if (-219902325555 : Int) > x then -219902325555 else x) then 219902325555 else (if (-219902325555 : Int) > x then -219902325555 else x)
def clipK {α : Type} (x : Int) (K : Int → α) : α := bif decide (x > 219902325555) then K 219902325555 else bif decide (x < -219902325555) then K (-219902325555) else K x
theorem clipK_eq {α : Type} (x : Int) (K : Int → α) : clipK x K = K (clip x) := by
  unfold clipK clip
  by_cases h1 : x > 219902325555
  · have e1 : ¬ (-219902325555 : Int) > x := by omega
    simp only [h1, e1, decide_true, cond_true, if_true, if_false]
  · by_cases h2 : x < -219902325555
    · have e2 : ¬ (219902325555 : Int) < -219902325555 := by omega
      simp only [h1, h2, e2, decide_true, decide_false, cond_true, cond_false, if_true, if_false]
    · simp only [h1, h2, decide_false, cond_false, if_false]
def dip0 (o : Ops) (r : V3) (b : Bool) : V3 × Bool := each3 b (fun b => o.mul b r.x (-274877906944)) (fun b => o.mul b r.y (-274877906944)) (fun b => o.mul b r.z (-274877906944))
def dip1 (o : Ops) (r : V3) (b : Bool) : V3 := ⟨clip (dip0 o r b).1.x, clip (dip0 o r b).1.y, clip (dip0 o r b).1.z⟩
def dipole (o : Ops) (b : Bool) (p : Dr × Unit) : V3 × Bool := bif !p.1.on then (V3.zero, b) else (bif (dip0 o p.1.rate b).2 then V3.zero else dip1 o p.1.rate b, (dip0 o p.1.rate b).2)
theorem dipole60 (o : Ops) (b : Bool) (d : Dr) : fnSum Try.prog { gam := gamN o } [] 20 60 [.ptr 0 0, .val (Cod.enc d)] (row 25 b) =
    bif !d.on then some (.val (Cod.enc V3.zero), row 25 b) else bif (dip0 o d.rate b).2 then some (.val (Cod.enc V3.zero), row 25 (dip0 o d.rate b).2) else some (.val (Cod.enc (dip1 o d.rate b)), row 25 (dip0 o d.rate b).2) := by kernel_rfl
theorem dipole61 (o : Ops) (b : Bool) (d : Dr) : fnSum Try.prog { gam := gamN o } [] 20 61 [.ptr 0 0, .val (Cod.enc d)] (row 27 b) =
    bif !d.on then some (.val (Cod.enc V3.zero), row 27 b) else
      clipK (dip0 o d.rate b).1.x fun x => clipK (dip0 o d.rate b).1.y fun y => clipK (dip0 o d.rate b).1.z fun z => bif (dip0 o d.rate b).2 then some (.val (Cod.enc V3.zero), row 27 (dip0 o d.rate b).2) else some (.val (Cod.enc (V3.mk x y z)), row 27 (dip0 o d.rate b).2) := by kernel_rfl
theorem ok60 : SumOk Try.prog 60 (S 25 (dipole opsF)) := S_ok gamN_ok 20 fun b a => by
  refine (dipole60 opsF b a.1).trans ?_
  unfold dipole
  cases !a.1.on <;> cases (dip0 opsF a.1.rate b).2 <;> rfl
theorem ok61 : SumOk Try.prog 61 (S 27 (dipole opsF)) := S_ok gamN_ok 20 fun b a => by
  refine (dipole61 opsF b a.1).trans ?_
  rw [clipK_eq, clipK_eq, clipK_eq]
  unfold dipole dip1
  cases !a.1.on <;> cases (dip0 opsF a.1.rate b).2 <;> rfl
theorem law10 (p : Bool → Dr × Unit → V3 × Bool) (b on : Bool) (t a0 a1 a2 x0 x1 x2 : Int) :
    fnSum Try.prog { gam := [(57, S0 fun (_ : Unit) => true), (60, S 25 p), (61, S 27 p)] } [] 20 10 (List.map AV.val [.agg #[.bool on, .int .i64 t, .int .i64 a0, .int .i64 a1, .int .i64 a2, .int .i64 x0, .int .i64 x1, .int .i64 x2], .bool b]) [] =
      bif v3b (p b (⟨on, t, ⟨a0, a1, a2⟩, ⟨x0, x1, x2⟩⟩, ())).1 (p b (⟨on, t, ⟨a0, a1, a2⟩, ⟨x0, x1, x2⟩⟩, ())).1 then say ((p b (⟨on, t, ⟨a0, a1, a2⟩, ⟨x0, x1, x2⟩⟩, ())).2 == (p b (⟨on, t, ⟨a0, a1, a2⟩, ⟨x0, x1, x2⟩⟩, ())).2) else sayF := by kernel_rfl
theorem BdotDipole_calls (on : Bool) (t a0 a1 a2 x0 x1 x2 : Int) (b : Bool) (w : World) :
    Calls Try.prog 10 #[.agg #[.bool on, .int .i64 t, .int .i64 a0, .int .i64 a1, .int .i64 a2, .int .i64 x0, .int .i64 x1, .int .i64 x2], .bool b] w fun e w' => e = .returned (.bool true) ∧ RowKit.Below w.heap.size w w' := by
  have hG : GamOk Try.prog [(57, S0 fun (_ : Unit) => true), (60, S 25 (dipole opsF)), (61, S 27 (dipole opsF))] := .cons ok57 (.cons ok60 (.cons ok61 .nil))
  refine calls_of_sum (E := { gam := [(57, S0 fun (_ : Unit) => true), (60, S 25 (dipole opsF)), (61, S 27 (dipole opsF))] }) hG (d := 20) (f := 10) (vals := [.agg #[.bool on, .int .i64 t, .int .i64 a0, .int .i64 a1, .int .i64 a2, .int .i64 x0, .int .i64 x1, .int .i64 x2], .bool b]) ?_ w
  rw [law10]
  simp [v3b_self, say]
end Go.Ab
