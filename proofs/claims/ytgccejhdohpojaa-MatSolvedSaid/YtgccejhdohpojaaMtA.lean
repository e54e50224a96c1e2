/- A part of the proof of 'MatSolved': lemmas, no statement of their own; no condition. -/
import Derived.Test.YtgccejhdohpojaaVcAll
/- Matrices: what both packages compute. -/
namespace Go.Ab
open Go Go.Proofs
structure R6 where
  a : Int
  b : Int
  c : Int
  d : Int
  e : Int
  f : Int
instance : Cod R6 where
  enc r := .agg #[.int .i64 r.a, .int .i64 r.b, .int .i64 r.c, .int .i64 r.d, .int .i64 r.e, .int .i64 r.f]
  dec v := match v with | .agg ⟨[.int .i64 a, .int .i64 b, .int .i64 c, .int .i64 d, .int .i64 e, .int .i64 f]⟩ => some ⟨a, b, c, d, e, f⟩ | _ => none
  law v a h := by split at h <;> simp_all; subst h; simp
structure M6 where
  a : R6
  b : R6
  c : R6
  d : R6
  e : R6
  f : R6
def R6.cells (r : R6) : List Value := [.int .i64 r.a, .int .i64 r.b, .int .i64 r.c, .int .i64 r.d, .int .i64 r.e, .int .i64 r.f]
def six : List Value → Option (R6 × List Value)
  | .int .i64 a :: .int .i64 b :: .int .i64 c :: .int .i64 d :: .int .i64 e :: .int .i64 f :: r => some (⟨a, b, c, d, e, f⟩, r)
  | _ => none
theorem six_law {l : List Value} {x : R6} {r : List Value} (h : six l = some (x, r)) : l = x.cells ++ r := by
  unfold six at h
  split at h
  · cases h; rfl
  · cases h
instance : Cod M6 where
  enc m := .agg ⟨m.a.cells ++ (m.b.cells ++ (m.c.cells ++ (m.d.cells ++ (m.e.cells ++ (m.f.cells ++ [])))))⟩
  dec v := match v with
    | .agg ⟨l⟩ => match six l with
      | some (a, l) => match six l with
        | some (b, l) => match six l with
          | some (c, l) => match six l with
            | some (d, l) => match six l with
              | some (e, l) => match six l with
                | some (f, []) => some ⟨a, b, c, d, e, f⟩
                | _ => none
              | none => none
            | none => none
          | none => none
        | none => none
      | none => none
    | _ => none
  law v m h := by
    split at h
    · rename_i l
      split at h
      · rename_i a l1 h1
        split at h
        · rename_i b l2 h2
          split at h
          · rename_i c l3 h3
            split at h
            · rename_i d l4 h4
              split at h
              · rename_i e l5 h5
                split at h
                · rename_i f h6
                  cases h
                  rw [six_law h1, six_law h2, six_law h3, six_law h4, six_law h5, six_law h6]
                · cases h
              · cases h
            · cases h
          · cases h
        · cases h
      · cases h
    · cases h
def R6.at (r : R6) : Nat → Int
  | 0 => r.a
  | 1 => r.b
  | 2 => r.c
  | 3 => r.d
  | 4 => r.e
  | 5 => r.f
  | _ => 0
abbrev Mx := Nat → Nat → Int
def M6.row (m : M6) : Nat → R6
  | 0 => m.a
  | 1 => m.b
  | 2 => m.c
  | 3 => m.d
  | 4 => m.e
  | _ => m.f
def M6.at (m : M6) : Mx := fun i j => (m.row i).at j
def R6.of (v : Nat → Int) : R6 := ⟨v 0, v 1, v 2, v 3, v 4, v 5⟩
def M6.of (L : Mx) : M6 := ⟨R6.of (L 0), R6.of (L 1), R6.of (L 2), R6.of (L 3), R6.of (L 4), R6.of (L 5)⟩
def mx0 : Mx := fun _ _ => 0
def M6.zero : M6 := M6.of mx0
def R6.zero : R6 := R6.of fun _ => 0
def setM (L : Mx) (i j : Nat) (v : Int) : Mx := fun a b => bif Nat.beq a i && Nat.beq b j then v else L a b
def setR (L : Nat → Int) (i : Nat) (v : Int) : Nat → Int := fun a => bif Nat.beq a i then v else L a
/-- s, less the products of two rows' first k numbers. -/
def lessN (o : Ops) (a b : Nat → Int) (s : Int × Bool) : Nat → Int × Bool
  | 0 => s
  | k + 1 =>
    let r := lessN o a b s k
    let m := o.mul r.2 (a k) (b k)
    o.sub m.2 r.1 m.1
def rootCols (o : Ops) (m : Mx) (i : Nat) (st : Mx × Bool) : Nat → Mx × Bool
  | 0 => st
  | j + 1 =>
    let r := rootCols o m i st j
    let s := lessN o (r.1 i) (r.1 j) (o.add r.2 (m i j) 0) j
    let d := o.div s.2 s.1 (r.1 j j)
    (setM r.1 i j d.1, d.2)
def rootRow (o : Ops) (m : Mx) (i : Nat) (st : Mx × Bool) : Mx × Bool :=
  let r := rootCols o m i st i
  let s := lessN o (r.1 i) (r.1 i) (o.add r.2 (m i i) 0) i
  let q := o.sqrt (bif decide (s.1 < 1) then true else s.2) s.1
  (setM r.1 i i q.1, q.2)
def rootRows (o : Ops) (m : Mx) (b : Bool) : Nat → Mx × Bool
  | 0 => (mx0, b)
  | i + 1 => rootRow o m i (rootRows o m b i)
def okN (n : Int) : Bool := decide (1 ≤ n) && decide (n ≤ 6)
def rootF (o : Ops) (b : Bool) (m : M6) (k : Nat) : M6 × Bool := (bif (rootRows o m.at b k).2 then M6.zero else M6.of (rootRows o m.at b k).1, (rootRows o m.at b k).2)
def matRoot (o : Ops) (b : Bool) (p : M6 × Int × Unit) : M6 × Bool := bif okN p.2.1 then (bif b then (M6.zero, b) else rootF o b p.1 p.2.1.toNat) else (M6.zero, true)
def envM (o : Ops) : Env := { gam := gamN o, ways := [(64, [115]), (65, [117])] }
end Go.Ab
