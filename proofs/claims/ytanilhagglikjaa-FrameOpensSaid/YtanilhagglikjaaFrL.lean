/- A part of the proof of 'FrameOpens': lemmas, no statement of their own; no condition. -/
import Derived.Test.YtanilhagglikjaaFrK
/- Wrap and Open of both packages: what they answer. -/
namespace Go.Ab
open Go Go.Proofs
theorem okWrap : SumOk Try.prog 12 (S0w (fun _ => true) fun (p : Fr × Unit) => wrapV p.1) := S0w_of fun a w _ => wrap_calls a.1 w
def noV : Option (AV × List Con) := some (.val (.tuple #[.string ⟨#[]⟩, .bool false]), [])
theorem ref13 (pre : ByteArray × Unit → Bool) (g : ByteArray × Unit → N16) (k : Int) (s : ByteArray) : fnSum Try.prog { gam := [(10, S0w pre g)] } [] 20 13 [.val (.agg #[.int .i64 k, .string s])] [] =
    let h := List.foldl pushI ByteArray.empty [IntKind.u8.wrap k, IntKind.u8.wrap s.size]
    let b := h ++ s
    let c : Int := (g (b, ())).n
    let e := List.foldl pushI ByteArray.empty [IntKind.u8.wrap (IntKind.u16.wrap (c.tdiv 256)), IntKind.u8.wrap (c.tmod 256)]
    bif decide (k < 0) then noV else bif bif false then true else decide (k > 255) then noV else bif bif false then true else decide ((s.size : Int) > 64) then noV else
      bif decide (((h.size + s.size : Nat) : Int) > 9223372036854775807) then none else bif pre (b, ()) then
        bif decide ((((⟨#[165]⟩ : ByteArray).size + b.size : Nat) : Int) > 9223372036854775807) then none else
          bif decide ((((⟨#[165]⟩ ++ b : ByteArray).size + e.size : Nat) : Int) > 9223372036854775807) then none else some (.val (.tuple #[.string (⟨#[165]⟩ ++ b ++ e), .bool true]), [])
      else none := by kernel_rfl
def noF : Option (AV × List Con) := some (.val (.tuple #[.agg #[.int .i64 0, .string ⟨#[]⟩], .bool false]), [])
def orW (a b : Int) : Int := IntKind.u16.wrap ↑(BitVec.ofInt IntKind.u16.bits a ||| BitVec.ofInt IntKind.u16.bits b).toNat
def byteI (s : ByteArray) (n : Int) : Int := (s.data.toList.getD n.toNat 0).toNat
theorem open14 (pre : ByteArray × Unit → Bool) (g : ByteArray × Unit → N16) (s : ByteArray) : fnSum Try.prog { gam := [(9, S0w pre g)] } [] 20 14 [.val (.string s)] [] =
    let L : Int := s.size
    let m := IntKind.i64.wrap (L - 2)
    bif decide (L < 5) then noF else bif decide (0 ≤ (0 : Int) ∧ 0 < L) then bif bif false then true else byteI s 0 != 165 then noF else
      bif decide (0 ≤ (2 : Int) ∧ 2 < L) then bif bif false then true else IntKind.i64.wrap (byteI s 2) != IntKind.i64.wrap (L - 5) then noF else
        bif bif false then true else decide (IntKind.i64.wrap (L - 5) > 64) then noF else
          bif decide (0 ≤ (1 : Int) ∧ 1 ≤ m ∧ m ≤ L) then bif pre (s.extract (Int.toNat 1) m.toNat, ()) then bif decide (0 ≤ m ∧ m < L) then
            bif decide (0 ≤ IntKind.i64.wrap (m + 1) ∧ IntKind.i64.wrap (m + 1) < L) then
              bif ((g (s.extract (Int.toNat 1) m.toNat, ())).n : Int) != orW (IntKind.u16.wrap (IntKind.u16.wrap (byteI s m) * 2 ^ min (Int.toNat 8) IntKind.u16.bits)) (IntKind.u16.wrap (byteI s (IntKind.i64.wrap (m + 1)))) then noF else
                bif decide (0 ≤ (1 : Int) ∧ 1 < L) then bif decide (0 ≤ (3 : Int) ∧ 3 ≤ m ∧ m ≤ L) then
                  some (.val (.tuple #[.agg #[.int .i64 (IntKind.i64.wrap (byteI s 1)), .string (s.extract (Int.toNat 3) m.toNat)], .bool true]), []) else none else none
            else none else none else none else none
      else none else none := by kernel_rfl
end Go.Ab
