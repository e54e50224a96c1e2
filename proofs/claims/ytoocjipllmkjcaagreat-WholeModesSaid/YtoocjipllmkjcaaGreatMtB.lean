/- A part of the proof of 'WholeModes': lemmas, no statement of their own; no condition. -/
import Derived.Test.YtoocjipllmkjcaaGreatGFrK
namespace Go.Ab
open Go Go.Proofs
def rootT(o:Ops)(e:TypeId)(b:Bool)(m:M6)(k:Nat):Option (AV×List Con) :=
 bif !!b then some (.val (Cod.enc M6.zero),row e b) else bif (rootRows o m.at b k).2 then some (.val (Cod.enc M6.zero),row e (rootRows o m.at b k).2) else some (.val (Cod.enc (M6.of (rootRows o m.at b k).1)),row e (rootRows o m.at b k).2)
theorem root64_1(o:Ops)(b:Bool)(m:M6):fnSum Tryz.prog (envM o) [] 20 61 [.ptr 0 0,.val (Cod.enc m),.val (.int .i64 1)] (row 57 b)=rootT o 57 b m 1:=by kernel_rfl
theorem root64_2(o:Ops)(b:Bool)(m:M6):fnSum Tryz.prog (envM o) [] 20 61 [.ptr 0 0,.val (Cod.enc m),.val (.int .i64 2)] (row 57 b)=rootT o 57 b m 2:=by kernel_rfl
theorem root64_3(o:Ops)(b:Bool)(m:M6):fnSum Tryz.prog (envM o) [] 20 61 [.ptr 0 0,.val (Cod.enc m),.val (.int .i64 3)] (row 57 b)=rootT o 57 b m 3:=by kernel_rfl
theorem root64_4(o:Ops)(b:Bool)(m:M6):fnSum Tryz.prog (envM o) [] 20 61 [.ptr 0 0,.val (Cod.enc m),.val (.int .i64 4)] (row 57 b)=rootT o 57 b m 4:=by kernel_rfl
theorem root64_5(o:Ops)(b:Bool)(m:M6):fnSum Tryz.prog (envM o) [] 20 61 [.ptr 0 0,.val (Cod.enc m),.val (.int .i64 5)] (row 57 b)=rootT o 57 b m 5:=by kernel_rfl
theorem root64_6(o:Ops)(b:Bool)(m:M6):fnSum Tryz.prog (envM o) [] 20 61 [.ptr 0 0,.val (Cod.enc m),.val (.int .i64 6)] (row 57 b)=rootT o 57 b m 6:=by kernel_rfl
end Go.Ab
