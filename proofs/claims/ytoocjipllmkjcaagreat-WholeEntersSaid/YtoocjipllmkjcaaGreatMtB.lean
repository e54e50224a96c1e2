/- A part of the proof of 'CraftHolds': lemmas, no statement of their own; no condition. -/
import Derived.Test.YtoocjipllmkjcaaGreatGFrK
namespace Go.Ab
open Go Go.Proofs
def Y0x(o:Ops)(e:TypeId)(b:Bool)(m:M6)(k:Nat):Option (AV×List Con) :=
 bif !!b then some (.val (Cod.enc M6.zero),row e b) else bif (D0h o m.at b k).2 then some (.val (Cod.enc M6.zero),row e (D0h o m.at b k).2) else some (.val (Cod.enc (M6.of (D0h o m.at b k).1)),row e (D0h o m.at b k).2)
theorem Z2d(o:Ops)(b:Bool)(m:M6):fnSum Tryz.prog (envM o) [] 20 61 [.ptr 0 0,.val (Cod.enc m),.val (.int .i64 1)] (row 57 b)=Y0x o 57 b m 1:=by kernel_rfl
theorem Z2e(o:Ops)(b:Bool)(m:M6):fnSum Tryz.prog (envM o) [] 20 61 [.ptr 0 0,.val (Cod.enc m),.val (.int .i64 2)] (row 57 b)=Y0x o 57 b m 2:=by kernel_rfl
theorem Z2g(o:Ops)(b:Bool)(m:M6):fnSum Tryz.prog (envM o) [] 20 61 [.ptr 0 0,.val (Cod.enc m),.val (.int .i64 3)] (row 57 b)=Y0x o 57 b m 3:=by kernel_rfl
theorem Z2h(o:Ops)(b:Bool)(m:M6):fnSum Tryz.prog (envM o) [] 20 61 [.ptr 0 0,.val (Cod.enc m),.val (.int .i64 4)] (row 57 b)=Y0x o 57 b m 4:=by kernel_rfl
theorem Z2j(o:Ops)(b:Bool)(m:M6):fnSum Tryz.prog (envM o) [] 20 61 [.ptr 0 0,.val (Cod.enc m),.val (.int .i64 5)] (row 57 b)=Y0x o 57 b m 5:=by kernel_rfl
theorem Z2k(o:Ops)(b:Bool)(m:M6):fnSum Tryz.prog (envM o) [] 20 61 [.ptr 0 0,.val (Cod.enc m),.val (.int .i64 6)] (row 57 b)=Y0x o 57 b m 6:=by kernel_rfl
end Go.Ab
