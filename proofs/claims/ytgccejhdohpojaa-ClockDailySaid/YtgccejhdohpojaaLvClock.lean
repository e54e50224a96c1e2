/- A part of the proof of 'ClockDaily': lemmas, no statement of their own; no condition. -/
import Derived.Test.YtgccejhdohpojaaVcAll
/- Ticks, days and how far the Earth has turned: both packages alike. -/
namespace Go.Ab
open Go Go.Proofs
def isTick (t : Int) : Bool := bif decide (0 ≤ t) then decide (t ≤ 157766400000) else false
theorem right40 (t : Int) : fnSum Try.prog { gam := [] } [] 20 40 [.val (.int .i64 t)] [] = bif decide (0 ≤ t) then some (.val (.bool (decide (t ≤ 157766400000))), []) else some (.val (.bool false), []) := by kernel_rfl
theorem right41 (t : Int) : fnSum Try.prog { gam := [] } [] 20 41 [.val (.int .i64 t)] [] = bif decide (0 ≤ t) then some (.val (.bool (decide (t ≤ 157766400000))), []) else some (.val (.bool false), []) := by kernel_rfl
theorem pull0 {ω : Type} [Cod ω] {c : Bool} {x y : ω} : (bif c then some (AV.val (Cod.enc x), ([] : List Con)) else some (AV.val (Cod.enc y), [])) = some (AV.val (Cod.enc (bif c then x else y)), []) := by cases c <;> rfl
theorem ok40 : SumOk Try.prog 40 (S0 fun (p : Int × Unit) => isTick p.1) := S0_ok (E := { gam := [] }) GamOk.nil 20 fun a => by
  refine (right40 a.1).trans ?_
  unfold isTick
  cases decide (0 ≤ a.1) <;> rfl
theorem ok41 : SumOk Try.prog 41 (S0 fun (p : Int × Unit) => isTick p.1) := S0_ok (E := { gam := [] }) GamOk.nil 20 fun a => by
  refine (right41 a.1).trans ?_
  unfold isTick
  cases decide (0 ≤ a.1) <;> rfl
def dayF (o : Ops) (t : Int) (f : Bool) : Int × Bool := o.part f 1099511627776 t 86400000
def vdays (o : Ops) (b : Bool) (p : Int × Unit) : Int × Bool := dayF o p.1 (bif !isTick p.1 then true else b)
def gamR (o : Ops) (rt : Int × Unit → Bool) : Gam := (40, S0 rt) :: (41, S0 rt) :: gamN o
theorem days38 (o : Ops) (rt : Int × Unit → Bool) (b : Bool) (t : Int) : fnSum Try.prog { gam := gamR o rt } [] 20 38 [.ptr 0 0, .val (.int .i64 t)] (row 25 b) =
    bif !rt (t, ()) then some (.val (.int .i64 (dayF o t true).1), row 25 (dayF o t true).2) else some (.val (.int .i64 (dayF o t b).1), row 25 (dayF o t b).2) := by kernel_rfl
theorem days39 (o : Ops) (rt : Int × Unit → Bool) (b : Bool) (t : Int) : fnSum Try.prog { gam := gamR o rt } [] 20 39 [.ptr 0 0, .val (.int .i64 t)] (row 27 b) =
    bif !rt (t, ()) then some (.val (.int .i64 (dayF o t true).1), row 27 (dayF o t true).2) else some (.val (.int .i64 (dayF o t b).1), row 27 (dayF o t b).2) := by kernel_rfl
theorem gamR_ok : GamOk Try.prog (gamR opsF fun p => isTick p.1) := .cons ok40 (.cons ok41 gamN_ok)
theorem ok38 : SumOk Try.prog 38 (S 25 (vdays opsF)) := S_ok gamR_ok 20 fun b a => (days38 opsF (fun p => isTick p.1) b a.1).trans (pull2 (F := dayF opsF a.1))
theorem ok39 : SumOk Try.prog 39 (S 27 (vdays opsF)) := S_ok gamR_ok 20 fun b a => (days39 opsF (fun p => isTick p.1) b a.1).trans (pull2 (F := dayF opsF a.1))
def turnAt (o : Ops) (t : Int) (d : Int) (f : Bool) : Int × Bool :=
  let n := o.part f 6908435304716 (t.tmod 86400000) 86400000
  let a := o.add n.2 5399947124839 n.1
  let m := o.mul a.2 18914669620 d
  let s := o.add m.2 a.1 m.1
  o.mod s.2 s.1 6908435304716
def vturn (o : Ops) (dy : Bool → Int × Unit → Int × Bool) (b : Bool) (p : Int × Unit) : Int × Bool := turnAt o p.1 (dy b p).1 (dy b p).2
theorem turn54 (o : Ops) (dy : Bool → Int × Unit → Int × Bool) (b : Bool) (t : Int) : fnSum Try.prog { gam := (38, S 25 dy) :: gamN o } [] 20 54 [.ptr 0 0, .val (.int .i64 t)] (row 25 b) =
    some (.val (.int .i64 (vturn o dy b (t, ())).1), row 25 (vturn o dy b (t, ())).2) := by kernel_rfl
theorem turn55 (o : Ops) (dy : Bool → Int × Unit → Int × Bool) (b : Bool) (t : Int) : fnSum Try.prog { gam := (39, S 27 dy) :: gamN o } [] 20 55 [.ptr 0 0, .val (.int .i64 t)] (row 27 b) =
    bif (dy b (t, ())).2 then some (.val (.int .i64 0), row 27 (dy b (t, ())).2) else some (.val (.int .i64 (vturn o dy b (t, ())).1), row 27 (vturn o dy b (t, ())).2) := by kernel_rfl
theorem turn_bad (t d : Int) : turnAt opsF t d true = (0, true) := rfl
theorem ok54 : SumOk Try.prog 54 (S 25 (vturn opsF (vdays opsF))) := S_ok (E := { gam := (38, S 25 (vdays opsF)) :: gamN opsF }) (.cons ok38 gamN_ok) 20 fun b a => turn54 opsF (vdays opsF) b a.1
theorem ok55 : SumOk Try.prog 55 (S 27 (vturn opsF (vdays opsF))) := S_ok (E := { gam := (39, S 27 (vdays opsF)) :: gamN opsF }) (.cons ok39 gamN_ok) 20 fun b a => by
  refine (turn55 opsF (vdays opsF) b a.1).trans ?_
  have hv : vturn opsF (vdays opsF) b a = turnAt opsF a.1 (vdays opsF b a).1 (vdays opsF b a).2 := rfl
  show (bif (vdays opsF b a).2 then some (AV.val (.int .i64 0), row 27 (vdays opsF b a).2) else some (AV.val (.int .i64 (vturn opsF (vdays opsF) b a).1), row 27 (vturn opsF (vdays opsF) b a).2)) = _
  rw [hv]
  cases h : (vdays opsF b a).2 with
  | true => rw [turn_bad]; rfl
  | false => rfl
theorem awake07 : fnSum Try.prog { gam := [] } [] 50 37 [] [] = some (.val (.bool true), []) := by kernel_rfl
theorem ok37 : SumOk Try.prog 37 (S0 fun (_ : Unit) => true) := S0_ok (E := { gam := [] }) GamOk.nil 50 fun _ => awake07
end Go.Ab
