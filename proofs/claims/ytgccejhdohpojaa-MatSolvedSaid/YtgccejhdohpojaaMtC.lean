/- A part of the proof of 'MatSolved': lemmas, no statement of their own; no condition. -/
import Derived.Test.YtgccejhdohpojaaMtB
/- What is solved; squares; what a matrix makes of a row: what both packages compute. -/
namespace Go.Ab
open Go Go.Proofs
def fwdN (o : Ops) (L : Mx) (y : Nat → Int) (b : Bool) : Nat → (Nat → Int) × Bool
  | 0 => (fun _ => 0, b)
  | i + 1 =>
    let r := fwdN o L y b i
    let s := lessN o (L i) r.1 (o.add r.2 (y i) 0) i
    let d := o.div s.2 s.1 (L i i)
    (setR r.1 i d.1, d.2)
def lessB (o : Ops) (L : Mx) (x : Nat → Int) (i : Nat) (s : Int × Bool) : Nat → Int × Bool
  | 0 => s
  | c + 1 =>
    let r := lessB o L x i s c
    let m := o.mul r.2 (L (i + 1 + c) i) (x (i + 1 + c))
    o.sub m.2 r.1 m.1
def bwdN (o : Ops) (L : Mx) (n : Nat) (st : (Nat → Int) × Bool) : Nat → (Nat → Int) × Bool
  | 0 => st
  | t + 1 =>
    let r := bwdN o L n st t
    let s := lessB o L r.1 (n - 1 - t) (r.1 (n - 1 - t), r.2) t
    let d := o.div s.2 s.1 (L (n - 1 - t) (n - 1 - t))
    (setR r.1 (n - 1 - t) d.1, d.2)
def solve0 (o : Ops) (b : Bool) (l : M6) (y : R6) (n : Nat) : (Nat → Int) × Bool := bwdN o l.at n (fwdN o l.at y.at b n) n
def sumN (o : Ops) (a b : Nat → Int) (f : Bool) : Nat → Int × Bool
  | 0 => (0, f)
  | k + 1 =>
    let r := sumN o a b f k
    let m := o.mul r.2 (a k) (b k)
    o.add m.2 r.1 m.1
def appN (o : Ops) (m : Mx) (b : Nat → Int) (n : Nat) (f : Bool) : Nat → (Nat → Int) × Bool
  | 0 => (fun _ => 0, f)
  | i + 1 =>
    let r := appN o m b n f i
    let s := sumN o (m i) b r.2 n
    (setR r.1 i s.1, s.2)
def sqRowN (o : Ops) (l : Mx) (n i : Nat) (st : Mx × Bool) : Nat → Mx × Bool
  | 0 => st
  | j + 1 =>
    let r := sqRowN o l n i st j
    let s := sumN o (l i) (l j) r.2 n
    (setM r.1 i j s.1, s.2)
def sqN (o : Ops) (l : Mx) (n : Nat) (f : Bool) : Nat → Mx × Bool
  | 0 => (mx0, f)
  | i + 1 => sqRowN o l n i (sqN o l n f i) n
def doneM (r : Mx × Bool) : M6 × Bool := (bif r.2 then M6.zero else M6.of r.1, r.2)
def doneR (r : (Nat → Int) × Bool) : R6 × Bool := (bif r.2 then R6.zero else R6.of r.1, r.2)
def byN {ω : Type} (z : ω) (n : Int) (b : Bool) (F : Nat → ω × Bool) : ω × Bool := bif okN n then (bif b then (z, b) else F n.toNat) else (z, true)
def matSolve (o : Ops) (b : Bool) (p : M6 × R6 × Int × Unit) : R6 × Bool := byN R6.zero p.2.2.1 b fun n => doneR (solve0 o b p.1 p.2.1 n)
def matSquare (o : Ops) (b : Bool) (p : M6 × Int × Unit) : M6 × Bool := byN M6.zero p.2.1 b fun n => doneM (sqN o p.1.at n b n)
def matApply (o : Ops) (b : Bool) (p : M6 × R6 × Int × Unit) : R6 × Bool := byN R6.zero p.2.2.1 b fun n => doneR (appN o p.1.at p.2.1.at n b n)
def doneMT (e : TypeId) (r : Mx × Bool) : Option (AV × List Con) := bif r.2 then some (.val (Cod.enc M6.zero), row e r.2) else some (.val (Cod.enc (M6.of r.1)), row e r.2)
def doneRT (e : TypeId) (r : (Nat → Int) × Bool) : Option (AV × List Con) := bif r.2 then some (.val (Cod.enc R6.zero), row e r.2) else some (.val (Cod.enc (R6.of r.1)), row e r.2)
def solveT (o : Ops) (e : TypeId) (b : Bool) (l : M6) (y : R6) (k : Nat) : Option (AV × List Con) := bif !!b then some (.val (Cod.enc R6.zero), row e b) else doneRT e (solve0 o b l y k)
def squareT (o : Ops) (e : TypeId) (b : Bool) (l : M6) (k : Nat) : Option (AV × List Con) := bif !!b then some (.val (Cod.enc M6.zero), row e b) else doneMT e (sqN o l.at k b k)
def applyT (o : Ops) (e : TypeId) (b : Bool) (l : M6) (y : R6) (k : Nat) : Option (AV × List Con) := bif !!b then some (.val (Cod.enc R6.zero), row e b) else doneRT e (appN o l.at y.at k b k)
end Go.Ab
