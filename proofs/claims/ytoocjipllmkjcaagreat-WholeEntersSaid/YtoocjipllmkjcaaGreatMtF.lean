/- A part of the proof of 'CraftHolds': lemmas, no statement of their own; no condition. -/
import Derived.Test.YtoocjipllmkjcaaGreatGMtC
namespace Go.Ab
open Go Go.Proofs
theorem D2g(o:Ops)(b:Bool)(m:M6)(y:R6):fnSum Tryz.prog {gam:=gamN o} [] 20 67 [.ptr 0 0,.val (Cod.enc m),.val (Cod.enc y),.val (.int .i64 1)] (row 57 b)=N0u o 57 b m y 1:=by kernel_rfl
theorem D2h(o:Ops)(b:Bool)(m:M6)(y:R6):fnSum Tryz.prog {gam:=gamN o} [] 20 67 [.ptr 0 0,.val (Cod.enc m),.val (Cod.enc y),.val (.int .i64 2)] (row 57 b)=N0u o 57 b m y 2:=by kernel_rfl
theorem D2j(o:Ops)(b:Bool)(m:M6)(y:R6):fnSum Tryz.prog {gam:=gamN o} [] 20 67 [.ptr 0 0,.val (Cod.enc m),.val (Cod.enc y),.val (.int .i64 3)] (row 57 b)=N0u o 57 b m y 3:=by kernel_rfl
theorem D2k(o:Ops)(b:Bool)(m:M6)(y:R6):fnSum Tryz.prog {gam:=gamN o} [] 20 67 [.ptr 0 0,.val (Cod.enc m),.val (Cod.enc y),.val (.int .i64 4)] (row 57 b)=N0u o 57 b m y 4:=by kernel_rfl
theorem D2m(o:Ops)(b:Bool)(m:M6)(y:R6):fnSum Tryz.prog {gam:=gamN o} [] 20 67 [.ptr 0 0,.val (Cod.enc m),.val (Cod.enc y),.val (.int .i64 5)] (row 57 b)=N0u o 57 b m y 5:=by kernel_rfl
theorem D2n(o:Ops)(b:Bool)(m:M6)(y:R6):fnSum Tryz.prog {gam:=gamN o} [] 20 67 [.ptr 0 0,.val (Cod.enc m),.val (Cod.enc y),.val (.int .i64 6)] (row 57 b)=N0u o 57 b m y 6:=by kernel_rfl
end Go.Ab
