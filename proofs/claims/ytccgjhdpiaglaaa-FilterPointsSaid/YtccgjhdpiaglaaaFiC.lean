/- A part of the proof of 'FilterPoints': lemmas, no statement of their own; no condition. -/
import Derived.Test.YtccgjhdpiaglaaaGRtG
/- The filter's points: trees of both packages. -/
namespace Go.Ab
open Go Go.Proofs
structure Gs where
  q : V4
  bias : V3
  p : M6
def m6c (m : M6) : List Value := m.a.cells ++ (m.b.cells ++ (m.c.cells ++ (m.d.cells ++ (m.e.cells ++ (m.f.cells ++ [])))))
def M6.dec : List Value → Option M6 := fun l => match (Cod.dec (α := M6) (.agg ⟨l⟩)) with | some m => some m | none => none
theorem M6.dec_law {l : List Value} {m : M6} (h : M6.dec l = some m) : l = m6c m := by
  unfold M6.dec at h
  split at h
  · rename_i m' hm
    cases h
    have := Cod.law _ _ hm
    injection this with h1
    injection h1
  · cases h
instance : Cod Gs where
  enc g := .agg ⟨.int .i64 g.q.w :: .int .i64 g.q.x :: .int .i64 g.q.y :: .int .i64 g.q.z :: .int .i64 g.bias.x :: .int .i64 g.bias.y :: .int .i64 g.bias.z :: m6c g.p⟩
  dec v := match v with
    | .agg ⟨.int .i64 a :: .int .i64 b :: .int .i64 c :: .int .i64 d :: .int .i64 x :: .int .i64 y :: .int .i64 z :: l⟩ => match M6.dec l with
      | some m => some ⟨⟨a, b, c, d⟩, ⟨x, y, z⟩, m⟩
      | none => none
    | _ => none
  law v g h := by
    split at h
    · split at h
      · rename_i hm
        cases h
        rw [M6.dec_law hm]
      · cases h
    · cases h
structure X13 where
  (r0 r1 r2 r3 r4 r5 r6 r7 r8 r9 r10 r11 r12 : R6)
def cellsL : List R6 → List Value
  | [] => []
  | r :: t => r.cells ++ cellsL t
def sixs : Nat → List Value → Option (List R6)
  | _, [] => some []
  | 0, _ :: _ => none
  | n + 1, l => match six l with
    | some (r, t) => match sixs n t with
      | some rs => some (r :: rs)
      | none => none
    | none => none
theorem sixs_law : ∀ {n : Nat} {l : List Value} {rs : List R6}, sixs n l = some rs → l = cellsL rs
  | 0, [], rs, h => by simp only [sixs, Option.some.injEq] at h; subst h; rfl
  | n + 1, [], rs, h => by simp only [sixs, Option.some.injEq] at h; subst h; rfl
  | 0, v :: t, rs, h => by simp [sixs] at h
  | n + 1, v :: t, rs, h => by
    simp only [sixs] at h
    split at h
    · rename_i r t' h1
      split at h
      · rename_i rs' h2
        cases h
        rw [six_law h1, sixs_law h2]
        rfl
      · cases h
    · cases h
def X13.rows (x : X13) : List R6 := [x.r0, x.r1, x.r2, x.r3, x.r4, x.r5, x.r6, x.r7, x.r8, x.r9, x.r10, x.r11, x.r12]
instance : Cod X13 where
  enc x := .agg ⟨cellsL x.rows⟩
  dec v := match v with
    | .agg ⟨l⟩ => match sixs 13 l with
      | some [r0, r1, r2, r3, r4, r5, r6, r7, r8, r9, r10, r11, r12] => some ⟨r0, r1, r2, r3, r4, r5, r6, r7, r8, r9, r10, r11, r12⟩
      | _ => none
    | _ => none
  law v x h := by
    split at h
    · split at h
      · rename_i hs
        cases h
        rw [sixs_law hs]
        rfl
      · cases h
    · cases h
def x13of (X : Mx) : X13 := ⟨R6.of (X 0), R6.of (X 1), R6.of (X 2), R6.of (X 3), R6.of (X 4), R6.of (X 5), R6.of (X 6), R6.of (X 7), R6.of (X 8), R6.of (X 9), R6.of (X 10), R6.of (X 11), R6.of (X 12)⟩
def x13z : X13 := x13of mx0
def start (q : V4) : Gs := ⟨q, V3.zero, ⟨⟨17179869184, 0, 0, 0, 0, 0⟩, ⟨0, 17179869184, 0, 0, 0, 0⟩, ⟨0, 0, 17179869184, 0, 0, 0⟩, ⟨0, 0, 0, 16777216, 0, 0⟩, ⟨0, 0, 0, 0, 16777216, 0⟩, ⟨0, 0, 0, 0, 0, 16777216⟩⟩⟩
theorem start105 (q : V4) : fnSum Try.prog { gam := [] } [] 20 45 [.val (Cod.enc q)] [] = some (.val (Cod.enc (start q)), []) := by kernel_rfl
theorem start106 (q : V4) : fnSum Try.prog { gam := [] } [] 20 46 [.val (Cod.enc q)] [] = some (.val (Cod.enc (start q)), []) := by kernel_rfl
def spread (o : Ops) (b : Bool) (g : Gs) : Int × Bool := o.add (o.add b g.p.a.a g.p.b.b).2 (o.add b g.p.a.a g.p.b.b).1 g.p.c.c
theorem spread109 (o : Ops) (b : Bool) (g : Gs) : fnSum Try.prog { gam := gamN o } [] 20 49 [.ptr 0 0, .val (Cod.enc g)] (row 25 b) = some (.val (.int .i64 (spread o b g).1), row 25 (spread o b g).2) := by kernel_rfl
theorem spread110 (o : Ops) (b : Bool) (g : Gs) : fnSum Try.prog { gam := gamN o } [] 20 50 [.ptr 0 0, .val (Cod.enc g)] (row 27 b) = some (.val (.int .i64 (spread o b g).1), row 27 (spread o b g).2) := by kernel_rfl
def jobsP : List (Nat × Nat) := [(0, 0), (0, 1), (0, 2), (0, 3), (0, 4), (0, 5), (1, 0), (1, 1), (1, 2), (1, 3), (1, 4), (1, 5), (2, 0), (2, 1), (2, 2), (2, 3), (2, 4), (2, 5), (3, 0), (3, 1), (3, 2), (3, 3), (3, 4), (3, 5), (4, 0), (4, 1), (4, 2), (4, 3), (4, 4), (4, 5), (5, 0), (5, 1), (5, 2), (5, 3), (5, 4), (5, 5)]
def jobsR : List (Nat × Nat) := [(0, 0), (1, 0), (2, 0), (3, 0), (4, 0), (5, 0), (0, 1), (1, 1), (2, 1), (3, 1), (4, 1), (5, 1), (0, 2), (1, 2), (2, 2), (3, 2), (4, 2), (5, 2), (0, 3), (1, 3), (2, 3), (3, 3), (4, 3), (5, 3), (0, 4), (1, 4), (2, 4), (3, 4), (4, 4), (5, 4), (0, 5), (1, 5), (2, 5), (3, 5), (4, 5), (5, 5)]
def runJ (o : Ops) (c : Int) (l : Mx) : List (Nat × Nat) → Mx × Bool → Mx × Bool
  | [], st => st
  | (i, k) :: r, st =>
    let d := o.mul st.2 c (l i k)
    runJ o c l r (setM (setM st.1 (1 + k) i d.1) (7 + k) i (IntKind.i64.wrap (0 - d.1)), d.2)
def points0 (o : Ops) (rt : Bool → M6 × Int × Unit → M6 × Bool) (J : List (Nat × Nat)) (b : Bool) (g : Gs) : Mx × Bool :=
  let l := rt b (g.p, 6, ())
  let c := o.sqrt l.2 7696581394432
  runJ o c.1 l.1.at J (mx0, c.2)
def pointsT (e : TypeId) (r : Mx × Bool) : Option (AV × List Con) := bif r.2 then some (.val (Cod.enc x13z), row e r.2) else some (.val (Cod.enc (x13of r.1)), row e r.2)
theorem points107 (o : Ops) (rt : Bool → M6 × Int × Unit → M6 × Bool) (b : Bool) (g : Gs) : fnSum Try.prog { gam := (81, S 25 rt) :: gamN o } [] 20 47 [.ptr 0 0, .val (Cod.enc g)] (row 25 b) = pointsT 25 (points0 o rt jobsP b g) := by kernel_rfl
theorem points108 (o : Ops) (rt : Bool → M6 × Int × Unit → M6 × Bool) (b : Bool) (g : Gs) : fnSum Try.prog { gam := (102, S 27 rt) :: gamN o } [] 20 48 [.ptr 0 0, .val (Cod.enc g)] (row 27 b) = pointsT 27 (points0 o rt jobsR b g) := by kernel_rfl
end Go.Ab
