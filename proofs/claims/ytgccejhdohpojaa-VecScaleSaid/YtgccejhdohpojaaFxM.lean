/- A part of the proof of 'VecScale': lemmas, no statement of their own; no condition. -/
import Derived.Test.YtgccejhdohpojaaFxL
/- The document's Over: a quotient, and what is left, bit by bit. -/
namespace Go.Ab
open Go Go.Proofs
def ovSl : Slots := [(1, .int .u64), (7, .int .u64), (8, .int .u64), (9, .int .i64)]
def ovFx : List (Nat × Nat × Nat) := [(2, 4096, 0)]
def ovRows : Rows' := [(4096, 171, [.u64, .u64])]
def ovG : List Nat := 10 :: nums 21 30
def ovNext (lf al i : Int) : Int := orI (shI lf 1) (andI (srI al i) 1)
def ovSt (b lf q i ah al : Int) (x : Nat → AV) (lo hi step : Nat) : St := lqSt 51 ovSl ovFx ovG ovRows [b, lf, q, i, ah, al] x lo hi step
theorem overRound (b lf q i ah al : Int) (x : Nat → AV) (lo hi step : Nat) :
    run Try.prog (callN Try.prog { gam := [] } 1) 51 {} [] 50 (Ex × St) (loopOf (blkOf Try.f186 0)) (ovSt b lf q i ah al x lo hi step) (fun e s' => some (e, maskSt ovG s')) =
      bif decide (i ≥ 0) then bif decide (i < 0) then none else
        bif srI lf 63 == 1 then some (.normal, ovSt b (IntKind.u64.wrap (ovNext lf al i - b)) (IntKind.u64.wrap (shI q 1 + 1)) (IntKind.i64.wrap (i - 1)) ah al x lo hi step)
        else bif decide (ovNext lf al i ≥ b) then some (.normal, ovSt b (IntKind.u64.wrap (ovNext lf al i - b)) (IntKind.u64.wrap (shI q 1 + 1)) (IntKind.i64.wrap (i - 1)) ah al x lo hi step)
        else some (.normal, ovSt b (ovNext lf al i) (shI q 1) (IntKind.i64.wrap (i - 1)) ah al x lo hi step)
      else some (.exit 0, ovSt b lf q i ah al x lo hi step) := by kernel_rfl
def ovPostV (A B : Int → Int → Int → Int → Int → Int) : List Int → List Int
  | [b, lf, q, i, ah, al] => [b, A b lf q i al, B b lf q i al, -1, ah, al]
  | l => l
theorem overTree (p : List Int → Bool) (A B : Int → Int → Int → Int → Int → Int) (a : Wd) (b : Int) :
    fnSum Try.prog { gam := [] } [(0, lqHint 51 ovSl ovFx ovG ovRows p (ovPostV A B))] 20 186 [.val (Cod.enc a), .val (.int .u64 b)] [] =
      bif b == 0 then some (.val (.tuple #[.int .u64 0, .int .u64 0, .bool false]), []) else bif decide (a.h ≥ b) then some (.val (.tuple #[.int .u64 0, .int .u64 0, .bool false]), []) else
        bif p [b, a.h, 0, 63, a.h, a.l] then some (.val (.tuple #[.int .u64 (B b a.h 0 63 a.l), .int .u64 (A b a.h 0 63 a.l), .bool true]), []) else none := by kernel_rfl
end Go.Ab
