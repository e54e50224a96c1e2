/- A part of the proof of 'MatSolved': lemmas, no statement of their own; no condition. -/
import Derived.Test.YtgccejhdohpojaaLvHeavy
import Derived.Test.YtgccejhdohpojaaMtK
/- MatBack: its trees. -/
namespace Go.Ab
open Go Go.Proofs
def bkC (c : Int) (s m : Nat → Int) (K : Option (AV × List Con)) : Nat → Nat → Option (AV × List Con)
  | 0, _ => K
  | r + 1, j => bif decide (IntKind.i64.wrap (s j - m j) > c) then sayF else bif decide (IntKind.i64.wrap (s j - m j) < -c) then sayF else bkC c s m K r (j + 1)
def bkR (c : Int) (s m : Mx) (n : Nat) (K : Option (AV × List Con)) : Nat → Nat → Option (AV × List Con)
  | 0, _ => K
  | r + 1, i => bkC c (s i) (m i) (bkR c s m n K r (i + 1)) n 0
def gam20 (pr hb : M6 × Int × Unit → Bool) (p q : Bool → M6 × Int × Unit → M6 × Bool) : Gam := [(62, S0 fun (_ : Unit) => true), (64, S 25 p), (78, S0c pr hb), (79, S 25 q)]
def tree20 (pr hb : M6 × Int × Unit → Bool) (p q : Bool → M6 × Int × Unit → M6 × Bool) (m : M6) (n : Int) (k : Nat) : Option (AV × List Con) :=
  bif pr (m, n, ()) then bif !hb (m, n, ()) then say true else
    bkR 64 (q (p false (m, n, ())).2 ((p false (m, n, ())).1, n, ())).1.at m.at k (say (!(q (p false (m, n, ())).2 ((p false (m, n, ())).1, n, ())).2)) k 0 else none
theorem law20_1 (pr hb : M6 × Int × Unit → Bool) (p q : Bool → M6 × Int × Unit → M6 × Bool) (m : M6) : fnSum Try.prog { gam := gam20 pr hb p q } [] 20 20 [.val (Cod.enc m), .val (.int .i64 1)] [] = tree20 pr hb p q m 1 1 := by kernel_rfl
theorem law20_2 (pr hb : M6 × Int × Unit → Bool) (p q : Bool → M6 × Int × Unit → M6 × Bool) (m : M6) : fnSum Try.prog { gam := gam20 pr hb p q } [] 20 20 [.val (Cod.enc m), .val (.int .i64 2)] [] = tree20 pr hb p q m 2 2 := by kernel_rfl
theorem law20_3 (pr hb : M6 × Int × Unit → Bool) (p q : Bool → M6 × Int × Unit → M6 × Bool) (m : M6) : fnSum Try.prog { gam := gam20 pr hb p q } [] 20 20 [.val (Cod.enc m), .val (.int .i64 3)] [] = tree20 pr hb p q m 3 3 := by kernel_rfl
theorem law20_4 (pr hb : M6 × Int × Unit → Bool) (p q : Bool → M6 × Int × Unit → M6 × Bool) (m : M6) : fnSum Try.prog { gam := gam20 pr hb p q } [] 20 20 [.val (Cod.enc m), .val (.int .i64 4)] [] = tree20 pr hb p q m 4 4 := by kernel_rfl
theorem law20_5 (pr hb : M6 × Int × Unit → Bool) (p q : Bool → M6 × Int × Unit → M6 × Bool) (m : M6) : fnSum Try.prog { gam := gam20 pr hb p q } [] 20 20 [.val (Cod.enc m), .val (.int .i64 5)] [] = tree20 pr hb p q m 5 5 := by kernel_rfl
theorem law20_6 (pr hb : M6 × Int × Unit → Bool) (p q : Bool → M6 × Int × Unit → M6 × Bool) (m : M6) : fnSum Try.prog { gam := gam20 pr hb p q } [] 20 20 [.val (Cod.enc m), .val (.int .i64 6)] [] = tree20 pr hb p q m 6 6 := by kernel_rfl
theorem law20_n (pr hb : M6 × Int × Unit → Bool) (p q : Bool → M6 × Int × Unit → M6 × Bool) (m : M6) (n : Int) : fnSum Try.prog { gam := gam20 pr hb p q } mute 20 20 [.val (Cod.enc m), .val (.int .i64 n)] [] =
    bif decide (n < 1) then say true else bif decide (n > 6) then say true else bif pr (m, n, ()) then bif !hb (m, n, ()) then say true else none else none := by kernel_rfl
end Go.Ab
