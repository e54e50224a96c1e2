/- A part of the proof of 'VecScale': lemmas, no statement of their own; no condition. -/
import Derived.Test.YtgccejhdohpojaaAcA
/- Vectors over open operations, and how a statement's chain of tests ends. -/
namespace Go.Ab
theorem pull {ω : Type} [Cod ω] {c : Bool} {x y : ω} {e : TypeId} {b : Bool} : (bif c then some (AV.val (Cod.enc x), row e b) else some (AV.val (Cod.enc y), row e b)) = some (AV.val (Cod.enc (bif c then x else y)), row e b) := by cases c <;> rfl
def V3.zero : V3 := ⟨0, 0, 0⟩
def v3b (a b : V3) : Bool := a.x == b.x && (a.y == b.y && (a.z == b.z && true))
theorem v3b_self (a : V3) : v3b a a = true := by simp [v3b]
def sayF : Option (AV × List Con) := some (.val (.bool false), [])
def say (b : Bool) : Option (AV × List Con) := some (.val (.bool b), [])
/-- each: part by part. -/
def each3 (b : Bool) (g : Bool → Int × Bool) (h : Bool → Int × Bool) (k : Bool → Int × Bool) : V3 × Bool :=
  (⟨(g b).1, (h (g b).2).1, (k (h (g b).2).2).1⟩, (k (h (g b).2).2).2)
def done3 (r : V3 × Bool) : V3 × Bool := (bif r.2 then V3.zero else r.1, r.2)
def vop (g : Bool → Int → Int → Int × Bool) (b : Bool) (p : V3 × V3 × Unit) : V3 × Bool :=
  done3 (each3 b (fun b => g b p.1.x p.2.1.x) (fun b => g b p.1.y p.2.1.y) (fun b => g b p.1.z p.2.1.z))
end Go.Ab
