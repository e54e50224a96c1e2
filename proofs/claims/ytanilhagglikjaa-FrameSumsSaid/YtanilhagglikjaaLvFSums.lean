/- A part of the proof of 'FrameSums': lemmas, no statement of their own; no condition. -/
import Derived.Test.YtanilhagglikjaaFrG
/- FrameSums: sums are the document's. -/
namespace Go.Ab
open Go Go.Proofs
def c9 : ByteArray := ⟨#[49, 50, 51, 52, 53, 54, 55, 56, 57]⟩
theorem lawS (pre : ByteArray × Unit → Bool) (p g : ByteArray × Unit → N16) (s : ByteArray) : fnSum Try.prog { gam := [(9, S0w pre p), (10, S0w pre g)] } [] 20 3 [.val (.string s)] [] =
    bif pre (c9, ()) then bif ((p (c9, ())).n : Int) != 10673 then some (.val (.bool false), []) else
      bif decide ((s.size : Int) > 5000) then some (.val (.bool true), []) else
        bif pre (s, ()) then bif pre (s, ()) then some (.val (.bool (bif false then true else ((p (s, ())).n : Int) == ((g (s, ())).n : Int))), []) else none else none
    else none := by kernel_rfl
theorem c9_ok : crcF c9.data.toList 65535 = 10673 := by decide +kernel
theorem FrameSums_calls (a0 : ByteArray) (w : World) : Calls Try.prog 3 #[.string a0] w fun e w' => e = .returned (.bool true) ∧ RowKit.Below w.heap.size w w' := by
  have hG : GamOk Try.prog [(9, S0w szOk sumN), (10, S0w szOk sumN)] := .cons okSum (.cons okRef .nil)
  refine calls_of_sum (E := { gam := [(9, S0w szOk sumN), (10, S0w szOk sumN)] }) hG (d := 20) (f := 3) (vals := [.string a0]) ?_ w
  refine (lawS szOk sumN sumN a0).trans ?_
  have h1 : szOk (c9, ()) = true := by decide
  have h2 : ((sumN (c9, ())).n : Int) = 10673 := by
    show ((crcF c9.data.toList 65535 : Nat) : Int) = 10673
    rw [c9_ok]
    rfl
  rw [h1, h2]
  by_cases h : (a0.size : Int) > 5000
  · rw [decide_eq_true h]
    rfl
  · rw [decide_eq_false h, show szOk (a0, ()) = true from decide_eq_true (by show a0.size ≤ _; omega)]
    simp
end Go.Ab
