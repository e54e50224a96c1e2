/- A part of the proof of 'VecScale': lemmas, no statement of their own; no condition. -/
import Derived.Test.YtgccejhdohpojaaFxG
/- fixed's ratio: a b / c, rounded. -/
namespace Go.Ab
open Go Go.Proofs
def xorI (a b : Int) : Int := IntKind.u64.wrap (((BitVec.ofInt IntKind.u64.bits a ^^^ BitVec.ofInt IntKind.u64.bits b).toNat : Nat) : Int)
theorem ratioTree (mp : U6 × U6 × Unit → Bool) (mv : U6 × U6 × Unit → Two U6 U6) (dp : U6 × U6 × U6 × Unit → Bool) (dv : U6 × U6 × U6 × Unit → Two U6 U6) (sz : Int × Unit → Two U6 U6) (gv : Bool → Int × Bool × Unit → Int × Bool) (a b c : Int) (f : Bool) :
    fnSum Try.prog { gam := [(176, S0c mp mv), (183, S0c dp dv), (175, S0 sz), (169, S 25 gv)] } [] 20 166 [.ptr 0 0, .val (.int .i64 a), .val (.int .i64 b), .val (.int .i64 c)] (row 25 f) =
      let x := (sz (a, ())).a.n; let y := (sz (b, ())).a.n; let z := (sz (c, ())).a.n
      let G := fun (m : Int) (ok : Bool) => some (AV.val (.int .i64 (gv f (m, ok, ())).1), row 25 (gv f (m, ok, ())).2)
      let H := (mv (⟨x⟩, ⟨y⟩, ())).a.n; let L := (mv (⟨x⟩, ⟨y⟩, ())).b.n
      let n := (dv (⟨H⟩, ⟨L⟩, ⟨z⟩, ())).a.n; let left := (dv (⟨H⟩, ⟨L⟩, ⟨z⟩, ())).b.n
      let r := xorI (xorI (sz (a, ())).b.n (sz (b, ())).b.n) (sz (c, ())).b.n
      bif mp (⟨x⟩, ⟨y⟩, ()) then bif z == 0 then G 0 false else bif decide (H ≥ z) then G 0 false else
        bif dp (⟨H⟩, ⟨L⟩, ⟨z⟩, ()) then bif decide (n > 4611686018427387904) then G 0 false else
          bif decide (left ≥ IntKind.u64.wrap (z - left)) then
            bif r == 1 then G (IntKind.i64.wrap (0 - IntKind.i64.wrap (IntKind.u64.wrap (n + 1)))) true else G (IntKind.i64.wrap (IntKind.u64.wrap (n + 1))) true
          else bif r == 1 then G (IntKind.i64.wrap (0 - IntKind.i64.wrap n)) true else G (IntKind.i64.wrap n) true
        else none
      else none := by kernel_rfl
theorem sizeTree (a : Int) : fnSum Try.prog { gam := [] } [] 20 175 [.val (.int .i64 a)] [] =
    bif decide (a < 0) then some (.val (.tuple #[.int .u64 (IntKind.u64.wrap (IntKind.i64.wrap (0 - a))), .int .u64 1]), []) else some (.val (.tuple #[.int .u64 (IntKind.u64.wrap a), .int .u64 0]), []) := by kernel_rfl
theorem giveTree (f ok : Bool) (n : Int) : fnSum Try.prog { gam := [] } [] 20 169 [.ptr 0 0, .val (.int .i64 n), .val (.bool ok)] (row 25 f) =
    bif !ok then some (.val (.int .i64 0), row 25 true) else bif decide (n > 4611686018427387904) then some (.val (.int .i64 0), row 25 true) else bif decide (n < -4611686018427387904) then some (.val (.int .i64 0), row 25 true) else some (.val (.int .i64 n), row 25 f) := by kernel_rfl
end Go.Ab
