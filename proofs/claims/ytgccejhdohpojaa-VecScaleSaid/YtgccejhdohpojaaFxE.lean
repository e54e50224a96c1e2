/- A part of the proof of 'VecScale': lemmas, no statement of their own; no condition. -/
import Derived.Test.YtgccejhdohpojaaFxD
/- math/bits.Div64: what it computes, on the way that its text goes. -/
namespace Go.Ab
open Go Go.Proofs
def shI (a s : Int) : Int := IntKind.u64.wrap (a * 2 ^ min s.toNat IntKind.u64.bits)
def srI (a s : Int) : Int := a.fdiv (2 ^ min s.toNat IntKind.u64.bits)
def orI (a b : Int) : Int := IntKind.u64.wrap (((BitVec.ofInt IntKind.u64.bits a ||| BitVec.ofInt IntKind.u64.bits b).toNat : Nat) : Int)
def andI (a b : Int) : Int := IntKind.u64.wrap (((BitVec.ofInt IntKind.u64.bits a &&& BitVec.ofInt IntKind.u64.bits b).toNat : Nat) : Int)
def guess (U y1 : Int) : Int := IntKind.u64.wrap (U.tdiv y1)
def rest (U y1 : Int) : Int := IntKind.u64.wrap (U - IntKind.u64.wrap (guess U y1 * y1))
def low (U u q y : Int) : Int := IntKind.u64.wrap (IntKind.u64.wrap (IntKind.u64.wrap (U * 4294967296) + u) - IntKind.u64.wrap (q * y))
def d64tail (p : List Int → Bool) (Q : Int → Int → Int → Int → Int → Int) (s y' y1 y0 un32 un1 un0 : Int) : Option (AV × List Con) :=
  bif y1 == 0 then none else
  bif p [y1, y0, un1, guess un32 y1, rest un32 y1] then
    bif y1 == 0 then none else
    bif p [y1, y0, un0, guess (low un32 un1 (Q y1 y0 un1 (guess un32 y1) (rest un32 y1)) y') y1, rest (low un32 un1 (Q y1 y0 un1 (guess un32 y1) (rest un32 y1)) y') y1] then
      bif decide (s < 0) then none else
        some (.val (.tuple #[.int .u64 (IntKind.u64.wrap (IntKind.u64.wrap (Q y1 y0 un1 (guess un32 y1) (rest un32 y1) * 4294967296) +
            Q y1 y0 un0 (guess (low un32 un1 (Q y1 y0 un1 (guess un32 y1) (rest un32 y1)) y') y1) (rest (low un32 un1 (Q y1 y0 un1 (guess un32 y1) (rest un32 y1)) y') y1))),
          .int .u64 (srI (low (low un32 un1 (Q y1 y0 un1 (guess un32 y1) (rest un32 y1)) y') un0
            (Q y1 y0 un0 (guess (low un32 un1 (Q y1 y0 un1 (guess un32 y1) (rest un32 y1)) y') y1) (rest (low un32 un1 (Q y1 y0 un1 (guess un32 y1) (rest un32 y1)) y') y1)) y') s)]), [])
    else none
  else none
theorem d64tree (pz : Int → Bool) (lz : Int → Int) (p : List Int → Bool) (Q R : Int → Int → Int → Int → Int → Int) (h l y : Int) :
    fnSum Try.prog { gam := [(185, S0c (fun (a : U6 × Unit) => pz a.1.n) fun a => lz a.1.n)] } [(0, lpHint 135 d64a (nums 67 19) p (dpostV Q R)), (2, lpHint 135 d64b (nums 102 19) p (dpostV Q R))] 20 183 [.val (.int .u64 h), .val (.int .u64 l), .val (.int .u64 y)] [] =
      bif y == 0 then none else bif decide (y ≤ h) then none else
        bif h == 0 then bif y == 0 then none else bif y == 0 then none else some (.val (.tuple #[.int .u64 (IntKind.u64.wrap (l.tdiv y)), .int .u64 (l.tmod y)]), [])
        else bif pz y then bif decide (IntKind.u64.wrap (lz y) < 0) then none else bif decide (IntKind.u64.wrap (lz y) < 0) then none else bif decide (IntKind.u64.wrap (64 - IntKind.u64.wrap (lz y)) < 0) then none else bif decide (IntKind.u64.wrap (lz y) < 0) then none else
          d64tail p Q (IntKind.u64.wrap (lz y)) (shI y (IntKind.u64.wrap (lz y))) (srI (shI y (IntKind.u64.wrap (lz y))) 32) (andI (shI y (IntKind.u64.wrap (lz y))) 4294967295)
            (orI (shI h (IntKind.u64.wrap (lz y))) (srI l (IntKind.u64.wrap (64 - IntKind.u64.wrap (lz y))))) (srI (shI l (IntKind.u64.wrap (lz y))) 32) (andI (shI l (IntKind.u64.wrap (lz y))) 4294967295) else none := by kernel_rfl
end Go.Ab
