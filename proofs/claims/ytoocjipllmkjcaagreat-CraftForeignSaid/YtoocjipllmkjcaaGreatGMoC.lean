/- A part of the proofs: lemmas, no statement of their own; no condition. -/
import Derived.Test.YtoocjipllmkjcaaGreatGFjK
import Derived.Test.YtoocjipllmkjcaaGreatGAbM
import Derived.Test.YtoocjipllmkjcaaGreatGFuB
import Derived.Test.YtoocjipllmkjcaaGreatProg
import Derived.Lib.AppendStr
import Derived.Laws.AppendOwn
import Derived.Laws.Slices
set_option linter.unusedSimpArgs false
namespace Go.Ab
open Go Go.Proofs
abbrev I_ (n : Int) : Value:=Value.int IntKind.i64 n
theorem t9 (ag : Bool→Int→Int) (p : Pl) (s : Sn) : fnSum Tryz.prog { gam:=[(225,leadsS),(226,agS ag)],loud:=[225] } [] 20 173 [.val (Cod.enc p),.val (Cod.enc s)] [] = (bif s.order == 1 then some (AV.val (Value.agg (List.toArray [I_ 3,I_ 0,I_ 0,I_ 0,I_ 0,I_ p.faults])),[]) else bif bif false then true else decide (p.mode < 0) then some (AV.val (Value.agg (List.toArray [I_ 3,I_ 0,I_ 0,I_ 0,I_ 0,I_ p.faults])),[]) else bif bif false then true else decide (p.mode > 3) then some (AV.val (Value.agg (List.toArray [I_ 3,I_ 0,I_ 0,I_ 0,I_ 0,I_ p.faults])),[]) else bif p.mode == 3 then bif s.order == 2 then some (AV.val (Value.agg (List.toArray [I_ 0,I_ 0,I_ 0,I_ 0,I_ 0,I_ 0])),[]) else some (AV.val (Value.agg (List.toArray [I_ p.mode,I_ p.calm,I_ p.good,I_ p.miss,I_ p.lost,I_ p.faults])),[]) else bif s.gap then bif bif true then p.mode != 0 else false then bif p.mode == 1 && (1 == 1 && true) || (p.mode == 2 && (1 == 1 && true) || (p.mode == 2 && (1 == 4 && true) || (p.mode == 2 && (1 == 2 && true) || (p.mode == 2 && (1 == 8 && true) || false)))) then some (AV.val (Value.agg (List.toArray [I_ 1,I_ 0,I_ 0,I_ 0,I_ 0,I_ (IntKind.i64.wrap ↑(BitVec.ofInt IntKind.i64.bits p.faults ||| BitVec.ofInt IntKind.i64.bits 1).toNat)])),[]) else none else bif p.mode != 2 then bif p.mode == 0 then bif s.gyro then bif decide (ag (bif true then s.slow else false) p.calm ≥ 3) then some (AV.val (Value.agg (List.toArray [I_ 1,I_ 0,I_ 0,I_ 0,I_ 0,I_ p.faults])),[]) else some (AV.val (Value.agg (List.toArray [I_ p.mode,I_ (ag (bif true then s.slow else false) p.calm),I_ p.good,I_ p.miss,I_ p.lost,I_ p.faults])),[]) else bif decide (ag false p.calm ≥ 3) then some (AV.val (Value.agg (List.toArray [I_ 1,I_ 0,I_ 0,I_ 0,I_ 0,I_ p.faults])),[]) else some (AV.val (Value.agg (List.toArray [I_ p.mode,I_ (ag false p.calm),I_ p.good,I_ p.miss,I_ p.lost,I_ p.faults])),[]) else bif p.mode == 1 then bif s.gyro then bif bif true then !s.slow else false then some (AV.val (Value.agg (List.toArray [I_ 0,I_ 0,I_ 0,I_ 0,I_ 0,I_ p.faults])),[]) else bif s.gyro then bif bif true then s.pair else false then bif decide (ag (bif true then s.lit else false) p.good ≥ 2) then some (AV.val (Value.agg (List.toArray [I_ 2,I_ 0,I_ 0,I_ 0,I_ 0,I_ p.faults])),[]) else some (AV.val (Value.agg (List.toArray [I_ p.mode,I_ p.calm,I_ (ag (bif true then s.lit else false) p.good),I_ p.miss,I_ p.lost,I_ p.faults])),[]) else bif decide (ag false p.good ≥ 2) then some (AV.val (Value.agg (List.toArray [I_ 2,I_ 0,I_ 0,I_ 0,I_ 0,I_ p.faults])),[]) else some (AV.val (Value.agg (List.toArray [I_ p.mode,I_ p.calm,I_ (ag false p.good),I_ p.miss,I_ p.lost,I_ p.faults])),[]) else bif decide (ag false p.good ≥ 2) then some (AV.val (Value.agg (List.toArray [I_ 2,I_ 0,I_ 0,I_ 0,I_ 0,I_ p.faults])),[]) else some (AV.val (Value.agg (List.toArray [I_ p.mode,I_ p.calm,I_ (ag false p.good),I_ p.miss,I_ p.lost,I_ p.faults])),[]) else bif s.gyro then bif bif true then s.pair else false then bif decide (ag (bif true then s.lit else false) p.good ≥ 2) then some (AV.val (Value.agg (List.toArray [I_ 2,I_ 0,I_ 0,I_ 0,I_ 0,I_ p.faults])),[]) else some (AV.val (Value.agg (List.toArray [I_ p.mode,I_ p.calm,I_ (ag (bif true then s.lit else false) p.good),I_ p.miss,I_ p.lost,I_ p.faults])),[]) else bif decide (ag false p.good ≥ 2) then some (AV.val (Value.agg (List.toArray [I_ 2,I_ 0,I_ 0,I_ 0,I_ 0,I_ p.faults])),[]) else some (AV.val (Value.agg (List.toArray [I_ p.mode,I_ p.calm,I_ (ag false p.good),I_ p.miss,I_ p.lost,I_ p.faults])),[]) else bif decide (ag false p.good ≥ 2) then some (AV.val (Value.agg (List.toArray [I_ 2,I_ 0,I_ 0,I_ 0,I_ 0,I_ p.faults])),[]) else some (AV.val (Value.agg (List.toArray [I_ p.mode,I_ p.calm,I_ (ag false p.good),I_ p.miss,I_ p.lost,I_ p.faults])),[]) else some (AV.val (Value.agg (List.toArray [I_ p.mode,I_ p.calm,I_ p.good,I_ p.miss,I_ p.lost,I_ p.faults])),[]) else bif s.bad then bif p.mode == 1 && (4 == 1 && true) || (p.mode == 2 && (4 == 1 && true) || (p.mode == 2 && (4 == 4 && true) || (p.mode == 2 && (4 == 2 && true) || (p.mode == 2 && (4 == 8 && true) || false)))) then some (AV.val (Value.agg (List.toArray [I_ 1,I_ 0,I_ 0,I_ 0,I_ 0,I_ (IntKind.i64.wrap ↑(BitVec.ofInt IntKind.i64.bits p.faults ||| BitVec.ofInt IntKind.i64.bits 4).toNat)])),[]) else none else bif decide (ag (!s.gyro) p.lost ≥ 3) then bif p.mode == 1 && (2 == 1 && true) || (p.mode == 2 && (2 == 1 && true) || (p.mode == 2 && (2 == 4 && true) || (p.mode == 2 && (2 == 2 && true) || (p.mode == 2 && (2 == 8 && true) || false)))) then some (AV.val (Value.agg (List.toArray [I_ 1,I_ 0,I_ 0,I_ 0,I_ 0,I_ (IntKind.i64.wrap ↑(BitVec.ofInt IntKind.i64.bits p.faults ||| BitVec.ofInt IntKind.i64.bits 2).toNat)])),[]) else none else bif s.pair then bif bif true then s.lit else false then bif bif true then decide (ag (!s.pass) p.miss ≥ 5) else false then bif p.mode == 1 && (8 == 1 && true) || (p.mode == 2 && (8 == 1 && true) || (p.mode == 2 && (8 == 4 && true) || (p.mode == 2 && (8 == 2 && true) || (p.mode == 2 && (8 == 8 && true) || false)))) then some (AV.val (Value.agg (List.toArray [I_ 1,I_ 0,I_ 0,I_ 0,I_ 0,I_ (IntKind.i64.wrap ↑(BitVec.ofInt IntKind.i64.bits p.faults ||| BitVec.ofInt IntKind.i64.bits 8).toNat)])),[]) else none else bif p.mode == 0 then bif s.gyro then bif decide (ag (bif true then s.slow else false) p.calm ≥ 3) then some (AV.val (Value.agg (List.toArray [I_ 1,I_ 0,I_ 0,I_ 0,I_ 0,I_ p.faults])),[]) else some (AV.val (Value.agg (List.toArray [I_ p.mode,I_ (ag (bif true then s.slow else false) p.calm),I_ p.good,I_ (ag (!s.pass) p.miss),I_ (ag (!s.gyro) p.lost),I_ p.faults])),[]) else bif decide (ag false p.calm ≥ 3) then some (AV.val (Value.agg (List.toArray [I_ 1,I_ 0,I_ 0,I_ 0,I_ 0,I_ p.faults])),[]) else some (AV.val (Value.agg (List.toArray [I_ p.mode,I_ (ag false p.calm),I_ p.good,I_ (ag (!s.pass) p.miss),I_ (ag (!s.gyro) p.lost),I_ p.faults])),[]) else bif p.mode == 1 then bif s.gyro then bif bif true then !s.slow else false then some (AV.val (Value.agg (List.toArray [I_ 0,I_ 0,I_ 0,I_ 0,I_ 0,I_ p.faults])),[]) else bif s.gyro then bif bif true then s.pair else false then bif decide (ag (bif true then s.lit else false) p.good ≥ 2) then some (AV.val (Value.agg (List.toArray [I_ 2,I_ 0,I_ 0,I_ 0,I_ 0,I_ p.faults])),[]) else some (AV.val (Value.agg (List.toArray [I_ p.mode,I_ p.calm,I_ (ag (bif true then s.lit else false) p.good),I_ (ag (!s.pass) p.miss),I_ (ag (!s.gyro) p.lost),I_ p.faults])),[]) else bif decide (ag false p.good ≥ 2) then some (AV.val (Value.agg (List.toArray [I_ 2,I_ 0,I_ 0,I_ 0,I_ 0,I_ p.faults])),[]) else some (AV.val (Value.agg (List.toArray [I_ p.mode,I_ p.calm,I_ (ag false p.good),I_ (ag (!s.pass) p.miss),I_ (ag (!s.gyro) p.lost),I_ p.faults])),[]) else bif decide (ag false p.good ≥ 2) then some (AV.val (Value.agg (List.toArray [I_ 2,I_ 0,I_ 0,I_ 0,I_ 0,I_ p.faults])),[]) else some (AV.val (Value.agg (List.toArray [I_ p.mode,I_ p.calm,I_ (ag false p.good),I_ (ag (!s.pass) p.miss),I_ (ag (!s.gyro) p.lost),I_ p.faults])),[]) else bif s.gyro then bif bif true then s.pair else false then bif decide (ag (bif true then s.lit else false) p.good ≥ 2) then some (AV.val (Value.agg (List.toArray [I_ 2,I_ 0,I_ 0,I_ 0,I_ 0,I_ p.faults])),[]) else some (AV.val (Value.agg (List.toArray [I_ p.mode,I_ p.calm,I_ (ag (bif true then s.lit else false) p.good),I_ (ag (!s.pass) p.miss),I_ (ag (!s.gyro) p.lost),I_ p.faults])),[]) else bif decide (ag false p.good ≥ 2) then some (AV.val (Value.agg (List.toArray [I_ 2,I_ 0,I_ 0,I_ 0,I_ 0,I_ p.faults])),[]) else some (AV.val (Value.agg (List.toArray [I_ p.mode,I_ p.calm,I_ (ag false p.good),I_ (ag (!s.pass) p.miss),I_ (ag (!s.gyro) p.lost),I_ p.faults])),[]) else bif decide (ag false p.good ≥ 2) then some (AV.val (Value.agg (List.toArray [I_ 2,I_ 0,I_ 0,I_ 0,I_ 0,I_ p.faults])),[]) else some (AV.val (Value.agg (List.toArray [I_ p.mode,I_ p.calm,I_ (ag false p.good),I_ (ag (!s.pass) p.miss),I_ (ag (!s.gyro) p.lost),I_ p.faults])),[]) else some (AV.val (Value.agg (List.toArray [I_ p.mode,I_ p.calm,I_ p.good,I_ (ag (!s.pass) p.miss),I_ (ag (!s.gyro) p.lost),I_ p.faults])),[]) else bif p.mode == 0 then bif s.gyro then bif decide (ag (bif true then s.slow else false) p.calm ≥ 3) then some (AV.val (Value.agg (List.toArray [I_ 1,I_ 0,I_ 0,I_ 0,I_ 0,I_ p.faults])),[]) else some (AV.val (Value.agg (List.toArray [I_ p.mode,I_ (ag (bif true then s.slow else false) p.calm),I_ p.good,I_ p.miss,I_ (ag (!s.gyro) p.lost),I_ p.faults])),[]) else bif decide (ag false p.calm ≥ 3) then some (AV.val (Value.agg (List.toArray [I_ 1,I_ 0,I_ 0,I_ 0,I_ 0,I_ p.faults])),[]) else some (AV.val (Value.agg (List.toArray [I_ p.mode,I_ (ag false p.calm),I_ p.good,I_ p.miss,I_ (ag (!s.gyro) p.lost),I_ p.faults])),[]) else bif p.mode == 1 then bif s.gyro then bif bif true then !s.slow else false then some (AV.val (Value.agg (List.toArray [I_ 0,I_ 0,I_ 0,I_ 0,I_ 0,I_ p.faults])),[]) else bif s.gyro then bif bif true then s.pair else false then bif decide (ag (bif true then s.lit else false) p.good ≥ 2) then some (AV.val (Value.agg (List.toArray [I_ 2,I_ 0,I_ 0,I_ 0,I_ 0,I_ p.faults])),[]) else some (AV.val (Value.agg (List.toArray [I_ p.mode,I_ p.calm,I_ (ag (bif true then s.lit else false) p.good),I_ p.miss,I_ (ag (!s.gyro) p.lost),I_ p.faults])),[]) else bif decide (ag false p.good ≥ 2) then some (AV.val (Value.agg (List.toArray [I_ 2,I_ 0,I_ 0,I_ 0,I_ 0,I_ p.faults])),[]) else some (AV.val (Value.agg (List.toArray [I_ p.mode,I_ p.calm,I_ (ag false p.good),I_ p.miss,I_ (ag (!s.gyro) p.lost),I_ p.faults])),[]) else bif decide (ag false p.good ≥ 2) then some (AV.val (Value.agg (List.toArray [I_ 2,I_ 0,I_ 0,I_ 0,I_ 0,I_ p.faults])),[]) else some (AV.val (Value.agg (List.toArray [I_ p.mode,I_ p.calm,I_ (ag false p.good),I_ p.miss,I_ (ag (!s.gyro) p.lost),I_ p.faults])),[]) else bif s.gyro then bif bif true then s.pair else false then bif decide (ag (bif true then s.lit else false) p.good ≥ 2) then some (AV.val (Value.agg (List.toArray [I_ 2,I_ 0,I_ 0,I_ 0,I_ 0,I_ p.faults])),[]) else some (AV.val (Value.agg (List.toArray [I_ p.mode,I_ p.calm,I_ (ag (bif true then s.lit else false) p.good),I_ p.miss,I_ (ag (!s.gyro) p.lost),I_ p.faults])),[]) else bif decide (ag false p.good ≥ 2) then some (AV.val (Value.agg (List.toArray [I_ 2,I_ 0,I_ 0,I_ 0,I_ 0,I_ p.faults])),[]) else some (AV.val (Value.agg (List.toArray [I_ p.mode,I_ p.calm,I_ (ag false p.good),I_ p.miss,I_ (ag (!s.gyro) p.lost),I_ p.faults])),[]) else bif decide (ag false p.good ≥ 2) then some (AV.val (Value.agg (List.toArray [I_ 2,I_ 0,I_ 0,I_ 0,I_ 0,I_ p.faults])),[]) else some (AV.val (Value.agg (List.toArray [I_ p.mode,I_ p.calm,I_ (ag false p.good),I_ p.miss,I_ (ag (!s.gyro) p.lost),I_ p.faults])),[]) else some (AV.val (Value.agg (List.toArray [I_ p.mode,I_ p.calm,I_ p.good,I_ p.miss,I_ (ag (!s.gyro) p.lost),I_ p.faults])),[]) else bif p.mode == 0 then bif s.gyro then bif decide (ag (bif true then s.slow else false) p.calm ≥ 3) then some (AV.val (Value.agg (List.toArray [I_ 1,I_ 0,I_ 0,I_ 0,I_ 0,I_ p.faults])),[]) else some (AV.val (Value.agg (List.toArray [I_ p.mode,I_ (ag (bif true then s.slow else false) p.calm),I_ p.good,I_ p.miss,I_ (ag (!s.gyro) p.lost),I_ p.faults])),[]) else bif decide (ag false p.calm ≥ 3) then some (AV.val (Value.agg (List.toArray [I_ 1,I_ 0,I_ 0,I_ 0,I_ 0,I_ p.faults])),[]) else some (AV.val (Value.agg (List.toArray [I_ p.mode,I_ (ag false p.calm),I_ p.good,I_ p.miss,I_ (ag (!s.gyro) p.lost),I_ p.faults])),[]) else bif p.mode == 1 then bif s.gyro then bif bif true then !s.slow else false then some (AV.val (Value.agg (List.toArray [I_ 0,I_ 0,I_ 0,I_ 0,I_ 0,I_ p.faults])),[]) else bif s.gyro then bif bif true then s.pair else false then bif decide (ag (bif true then s.lit else false) p.good ≥ 2) then some (AV.val (Value.agg (List.toArray [I_ 2,I_ 0,I_ 0,I_ 0,I_ 0,I_ p.faults])),[]) else some (AV.val (Value.agg (List.toArray [I_ p.mode,I_ p.calm,I_ (ag (bif true then s.lit else false) p.good),I_ p.miss,I_ (ag (!s.gyro) p.lost),I_ p.faults])),[]) else bif decide (ag false p.good ≥ 2) then some (AV.val (Value.agg (List.toArray [I_ 2,I_ 0,I_ 0,I_ 0,I_ 0,I_ p.faults])),[]) else some (AV.val (Value.agg (List.toArray [I_ p.mode,I_ p.calm,I_ (ag false p.good),I_ p.miss,I_ (ag (!s.gyro) p.lost),I_ p.faults])),[]) else bif decide (ag false p.good ≥ 2) then some (AV.val (Value.agg (List.toArray [I_ 2,I_ 0,I_ 0,I_ 0,I_ 0,I_ p.faults])),[]) else some (AV.val (Value.agg (List.toArray [I_ p.mode,I_ p.calm,I_ (ag false p.good),I_ p.miss,I_ (ag (!s.gyro) p.lost),I_ p.faults])),[]) else bif s.gyro then bif bif true then s.pair else false then bif decide (ag (bif true then s.lit else false) p.good ≥ 2) then some (AV.val (Value.agg (List.toArray [I_ 2,I_ 0,I_ 0,I_ 0,I_ 0,I_ p.faults])),[]) else some (AV.val (Value.agg (List.toArray [I_ p.mode,I_ p.calm,I_ (ag (bif true then s.lit else false) p.good),I_ p.miss,I_ (ag (!s.gyro) p.lost),I_ p.faults])),[]) else bif decide (ag false p.good ≥ 2) then some (AV.val (Value.agg (List.toArray [I_ 2,I_ 0,I_ 0,I_ 0,I_ 0,I_ p.faults])),[]) else some (AV.val (Value.agg (List.toArray [I_ p.mode,I_ p.calm,I_ (ag false p.good),I_ p.miss,I_ (ag (!s.gyro) p.lost),I_ p.faults])),[]) else bif decide (ag false p.good ≥ 2) then some (AV.val (Value.agg (List.toArray [I_ 2,I_ 0,I_ 0,I_ 0,I_ 0,I_ p.faults])),[]) else some (AV.val (Value.agg (List.toArray [I_ p.mode,I_ p.calm,I_ (ag false p.good),I_ p.miss,I_ (ag (!s.gyro) p.lost),I_ p.faults])),[]) else some (AV.val (Value.agg (List.toArray [I_ p.mode,I_ p.calm,I_ p.good,I_ p.miss,I_ (ag (!s.gyro) p.lost),I_ p.faults])),[]) else bif p.mode != 2 then bif p.mode == 0 then bif s.gyro then bif decide (ag (bif true then s.slow else false) p.calm ≥ 3) then some (AV.val (Value.agg (List.toArray [I_ 1,I_ 0,I_ 0,I_ 0,I_ 0,I_ p.faults])),[]) else some (AV.val (Value.agg (List.toArray [I_ p.mode,I_ (ag (bif true then s.slow else false) p.calm),I_ p.good,I_ p.miss,I_ p.lost,I_ p.faults])),[]) else bif decide (ag false p.calm ≥ 3) then some (AV.val (Value.agg (List.toArray [I_ 1,I_ 0,I_ 0,I_ 0,I_ 0,I_ p.faults])),[]) else some (AV.val (Value.agg (List.toArray [I_ p.mode,I_ (ag false p.calm),I_ p.good,I_ p.miss,I_ p.lost,I_ p.faults])),[]) else bif p.mode == 1 then bif s.gyro then bif bif true then !s.slow else false then some (AV.val (Value.agg (List.toArray [I_ 0,I_ 0,I_ 0,I_ 0,I_ 0,I_ p.faults])),[]) else bif s.gyro then bif bif true then s.pair else false then bif decide (ag (bif true then s.lit else false) p.good ≥ 2) then some (AV.val (Value.agg (List.toArray [I_ 2,I_ 0,I_ 0,I_ 0,I_ 0,I_ p.faults])),[]) else some (AV.val (Value.agg (List.toArray [I_ p.mode,I_ p.calm,I_ (ag (bif true then s.lit else false) p.good),I_ p.miss,I_ p.lost,I_ p.faults])),[]) else bif decide (ag false p.good ≥ 2) then some (AV.val (Value.agg (List.toArray [I_ 2,I_ 0,I_ 0,I_ 0,I_ 0,I_ p.faults])),[]) else some (AV.val (Value.agg (List.toArray [I_ p.mode,I_ p.calm,I_ (ag false p.good),I_ p.miss,I_ p.lost,I_ p.faults])),[]) else bif decide (ag false p.good ≥ 2) then some (AV.val (Value.agg (List.toArray [I_ 2,I_ 0,I_ 0,I_ 0,I_ 0,I_ p.faults])),[]) else some (AV.val (Value.agg (List.toArray [I_ p.mode,I_ p.calm,I_ (ag false p.good),I_ p.miss,I_ p.lost,I_ p.faults])),[]) else bif s.gyro then bif bif true then s.pair else false then bif decide (ag (bif true then s.lit else false) p.good ≥ 2) then some (AV.val (Value.agg (List.toArray [I_ 2,I_ 0,I_ 0,I_ 0,I_ 0,I_ p.faults])),[]) else some (AV.val (Value.agg (List.toArray [I_ p.mode,I_ p.calm,I_ (ag (bif true then s.lit else false) p.good),I_ p.miss,I_ p.lost,I_ p.faults])),[]) else bif decide (ag false p.good ≥ 2) then some (AV.val (Value.agg (List.toArray [I_ 2,I_ 0,I_ 0,I_ 0,I_ 0,I_ p.faults])),[]) else some (AV.val (Value.agg (List.toArray [I_ p.mode,I_ p.calm,I_ (ag false p.good),I_ p.miss,I_ p.lost,I_ p.faults])),[]) else bif decide (ag false p.good ≥ 2) then some (AV.val (Value.agg (List.toArray [I_ 2,I_ 0,I_ 0,I_ 0,I_ 0,I_ p.faults])),[]) else some (AV.val (Value.agg (List.toArray [I_ p.mode,I_ p.calm,I_ (ag false p.good),I_ p.miss,I_ p.lost,I_ p.faults])),[]) else some (AV.val (Value.agg (List.toArray [I_ p.mode,I_ p.calm,I_ p.good,I_ p.miss,I_ p.lost,I_ p.faults])),[]) else bif s.bad then bif p.mode == 1 && (4 == 1 && true) || (p.mode == 2 && (4 == 1 && true) || (p.mode == 2 && (4 == 4 && true) || (p.mode == 2 && (4 == 2 && true) || (p.mode == 2 && (4 == 8 && true) || false)))) then some (AV.val (Value.agg (List.toArray [I_ 1,I_ 0,I_ 0,I_ 0,I_ 0,I_ (IntKind.i64.wrap ↑(BitVec.ofInt IntKind.i64.bits p.faults ||| BitVec.ofInt IntKind.i64.bits 4).toNat)])),[]) else none else bif decide (ag (!s.gyro) p.lost ≥ 3) then bif p.mode == 1 && (2 == 1 && true) || (p.mode == 2 && (2 == 1 && true) || (p.mode == 2 && (2 == 4 && true) || (p.mode == 2 && (2 == 2 && true) || (p.mode == 2 && (2 == 8 && true) || false)))) then some (AV.val (Value.agg (List.toArray [I_ 1,I_ 0,I_ 0,I_ 0,I_ 0,I_ (IntKind.i64.wrap ↑(BitVec.ofInt IntKind.i64.bits p.faults ||| BitVec.ofInt IntKind.i64.bits 2).toNat)])),[]) else none else bif s.pair then bif bif true then s.lit else false then bif bif true then decide (ag (!s.pass) p.miss ≥ 5) else false then bif p.mode == 1 && (8 == 1 && true) || (p.mode == 2 && (8 == 1 && true) || (p.mode == 2 && (8 == 4 && true) || (p.mode == 2 && (8 == 2 && true) || (p.mode == 2 && (8 == 8 && true) || false)))) then some (AV.val (Value.agg (List.toArray [I_ 1,I_ 0,I_ 0,I_ 0,I_ 0,I_ (IntKind.i64.wrap ↑(BitVec.ofInt IntKind.i64.bits p.faults ||| BitVec.ofInt IntKind.i64.bits 8).toNat)])),[]) else none else bif p.mode == 0 then bif s.gyro then bif decide (ag (bif true then s.slow else false) p.calm ≥ 3) then some (AV.val (Value.agg (List.toArray [I_ 1,I_ 0,I_ 0,I_ 0,I_ 0,I_ p.faults])),[]) else some (AV.val (Value.agg (List.toArray [I_ p.mode,I_ (ag (bif true then s.slow else false) p.calm),I_ p.good,I_ (ag (!s.pass) p.miss),I_ (ag (!s.gyro) p.lost),I_ p.faults])),[]) else bif decide (ag false p.calm ≥ 3) then some (AV.val (Value.agg (List.toArray [I_ 1,I_ 0,I_ 0,I_ 0,I_ 0,I_ p.faults])),[]) else some (AV.val (Value.agg (List.toArray [I_ p.mode,I_ (ag false p.calm),I_ p.good,I_ (ag (!s.pass) p.miss),I_ (ag (!s.gyro) p.lost),I_ p.faults])),[]) else bif p.mode == 1 then bif s.gyro then bif bif true then !s.slow else false then some (AV.val (Value.agg (List.toArray [I_ 0,I_ 0,I_ 0,I_ 0,I_ 0,I_ p.faults])),[]) else bif s.gyro then bif bif true then s.pair else false then bif decide (ag (bif true then s.lit else false) p.good ≥ 2) then some (AV.val (Value.agg (List.toArray [I_ 2,I_ 0,I_ 0,I_ 0,I_ 0,I_ p.faults])),[]) else some (AV.val (Value.agg (List.toArray [I_ p.mode,I_ p.calm,I_ (ag (bif true then s.lit else false) p.good),I_ (ag (!s.pass) p.miss),I_ (ag (!s.gyro) p.lost),I_ p.faults])),[]) else bif decide (ag false p.good ≥ 2) then some (AV.val (Value.agg (List.toArray [I_ 2,I_ 0,I_ 0,I_ 0,I_ 0,I_ p.faults])),[]) else some (AV.val (Value.agg (List.toArray [I_ p.mode,I_ p.calm,I_ (ag false p.good),I_ (ag (!s.pass) p.miss),I_ (ag (!s.gyro) p.lost),I_ p.faults])),[]) else bif decide (ag false p.good ≥ 2) then some (AV.val (Value.agg (List.toArray [I_ 2,I_ 0,I_ 0,I_ 0,I_ 0,I_ p.faults])),[]) else some (AV.val (Value.agg (List.toArray [I_ p.mode,I_ p.calm,I_ (ag false p.good),I_ (ag (!s.pass) p.miss),I_ (ag (!s.gyro) p.lost),I_ p.faults])),[]) else bif s.gyro then bif bif true then s.pair else false then bif decide (ag (bif true then s.lit else false) p.good ≥ 2) then some (AV.val (Value.agg (List.toArray [I_ 2,I_ 0,I_ 0,I_ 0,I_ 0,I_ p.faults])),[]) else some (AV.val (Value.agg (List.toArray [I_ p.mode,I_ p.calm,I_ (ag (bif true then s.lit else false) p.good),I_ (ag (!s.pass) p.miss),I_ (ag (!s.gyro) p.lost),I_ p.faults])),[]) else bif decide (ag false p.good ≥ 2) then some (AV.val (Value.agg (List.toArray [I_ 2,I_ 0,I_ 0,I_ 0,I_ 0,I_ p.faults])),[]) else some (AV.val (Value.agg (List.toArray [I_ p.mode,I_ p.calm,I_ (ag false p.good),I_ (ag (!s.pass) p.miss),I_ (ag (!s.gyro) p.lost),I_ p.faults])),[]) else bif decide (ag false p.good ≥ 2) then some (AV.val (Value.agg (List.toArray [I_ 2,I_ 0,I_ 0,I_ 0,I_ 0,I_ p.faults])),[]) else some (AV.val (Value.agg (List.toArray [I_ p.mode,I_ p.calm,I_ (ag false p.good),I_ (ag (!s.pass) p.miss),I_ (ag (!s.gyro) p.lost),I_ p.faults])),[]) else some (AV.val (Value.agg (List.toArray [I_ p.mode,I_ p.calm,I_ p.good,I_ (ag (!s.pass) p.miss),I_ (ag (!s.gyro) p.lost),I_ p.faults])),[]) else bif p.mode == 0 then bif s.gyro then bif decide (ag (bif true then s.slow else false) p.calm ≥ 3) then some (AV.val (Value.agg (List.toArray [I_ 1,I_ 0,I_ 0,I_ 0,I_ 0,I_ p.faults])),[]) else some (AV.val (Value.agg (List.toArray [I_ p.mode,I_ (ag (bif true then s.slow else false) p.calm),I_ p.good,I_ p.miss,I_ (ag (!s.gyro) p.lost),I_ p.faults])),[]) else bif decide (ag false p.calm ≥ 3) then some (AV.val (Value.agg (List.toArray [I_ 1,I_ 0,I_ 0,I_ 0,I_ 0,I_ p.faults])),[]) else some (AV.val (Value.agg (List.toArray [I_ p.mode,I_ (ag false p.calm),I_ p.good,I_ p.miss,I_ (ag (!s.gyro) p.lost),I_ p.faults])),[]) else bif p.mode == 1 then bif s.gyro then bif bif true then !s.slow else false then some (AV.val (Value.agg (List.toArray [I_ 0,I_ 0,I_ 0,I_ 0,I_ 0,I_ p.faults])),[]) else bif s.gyro then bif bif true then s.pair else false then bif decide (ag (bif true then s.lit else false) p.good ≥ 2) then some (AV.val (Value.agg (List.toArray [I_ 2,I_ 0,I_ 0,I_ 0,I_ 0,I_ p.faults])),[]) else some (AV.val (Value.agg (List.toArray [I_ p.mode,I_ p.calm,I_ (ag (bif true then s.lit else false) p.good),I_ p.miss,I_ (ag (!s.gyro) p.lost),I_ p.faults])),[]) else bif decide (ag false p.good ≥ 2) then some (AV.val (Value.agg (List.toArray [I_ 2,I_ 0,I_ 0,I_ 0,I_ 0,I_ p.faults])),[]) else some (AV.val (Value.agg (List.toArray [I_ p.mode,I_ p.calm,I_ (ag false p.good),I_ p.miss,I_ (ag (!s.gyro) p.lost),I_ p.faults])),[]) else bif decide (ag false p.good ≥ 2) then some (AV.val (Value.agg (List.toArray [I_ 2,I_ 0,I_ 0,I_ 0,I_ 0,I_ p.faults])),[]) else some (AV.val (Value.agg (List.toArray [I_ p.mode,I_ p.calm,I_ (ag false p.good),I_ p.miss,I_ (ag (!s.gyro) p.lost),I_ p.faults])),[]) else bif s.gyro then bif bif true then s.pair else false then bif decide (ag (bif true then s.lit else false) p.good ≥ 2) then some (AV.val (Value.agg (List.toArray [I_ 2,I_ 0,I_ 0,I_ 0,I_ 0,I_ p.faults])),[]) else some (AV.val (Value.agg (List.toArray [I_ p.mode,I_ p.calm,I_ (ag (bif true then s.lit else false) p.good),I_ p.miss,I_ (ag (!s.gyro) p.lost),I_ p.faults])),[]) else bif decide (ag false p.good ≥ 2) then some (AV.val (Value.agg (List.toArray [I_ 2,I_ 0,I_ 0,I_ 0,I_ 0,I_ p.faults])),[]) else some (AV.val (Value.agg (List.toArray [I_ p.mode,I_ p.calm,I_ (ag false p.good),I_ p.miss,I_ (ag (!s.gyro) p.lost),I_ p.faults])),[]) else bif decide (ag false p.good ≥ 2) then some (AV.val (Value.agg (List.toArray [I_ 2,I_ 0,I_ 0,I_ 0,I_ 0,I_ p.faults])),[]) else some (AV.val (Value.agg (List.toArray [I_ p.mode,I_ p.calm,I_ (ag false p.good),I_ p.miss,I_ (ag (!s.gyro) p.lost),I_ p.faults])),[]) else some (AV.val (Value.agg (List.toArray [I_ p.mode,I_ p.calm,I_ p.good,I_ p.miss,I_ (ag (!s.gyro) p.lost),I_ p.faults])),[]) else bif p.mode == 0 then bif s.gyro then bif decide (ag (bif true then s.slow else false) p.calm ≥ 3) then some (AV.val (Value.agg (List.toArray [I_ 1,I_ 0,I_ 0,I_ 0,I_ 0,I_ p.faults])),[]) else some (AV.val (Value.agg (List.toArray [I_ p.mode,I_ (ag (bif true then s.slow else false) p.calm),I_ p.good,I_ p.miss,I_ (ag (!s.gyro) p.lost),I_ p.faults])),[]) else bif decide (ag false p.calm ≥ 3) then some (AV.val (Value.agg (List.toArray [I_ 1,I_ 0,I_ 0,I_ 0,I_ 0,I_ p.faults])),[]) else some (AV.val (Value.agg (List.toArray [I_ p.mode,I_ (ag false p.calm),I_ p.good,I_ p.miss,I_ (ag (!s.gyro) p.lost),I_ p.faults])),[]) else bif p.mode == 1 then bif s.gyro then bif bif true then !s.slow else false then some (AV.val (Value.agg (List.toArray [I_ 0,I_ 0,I_ 0,I_ 0,I_ 0,I_ p.faults])),[]) else bif s.gyro then bif bif true then s.pair else false then bif decide (ag (bif true then s.lit else false) p.good ≥ 2) then some (AV.val (Value.agg (List.toArray [I_ 2,I_ 0,I_ 0,I_ 0,I_ 0,I_ p.faults])),[]) else some (AV.val (Value.agg (List.toArray [I_ p.mode,I_ p.calm,I_ (ag (bif true then s.lit else false) p.good),I_ p.miss,I_ (ag (!s.gyro) p.lost),I_ p.faults])),[]) else bif decide (ag false p.good ≥ 2) then some (AV.val (Value.agg (List.toArray [I_ 2,I_ 0,I_ 0,I_ 0,I_ 0,I_ p.faults])),[]) else some (AV.val (Value.agg (List.toArray [I_ p.mode,I_ p.calm,I_ (ag false p.good),I_ p.miss,I_ (ag (!s.gyro) p.lost),I_ p.faults])),[]) else bif decide (ag false p.good ≥ 2) then some (AV.val (Value.agg (List.toArray [I_ 2,I_ 0,I_ 0,I_ 0,I_ 0,I_ p.faults])),[]) else some (AV.val (Value.agg (List.toArray [I_ p.mode,I_ p.calm,I_ (ag false p.good),I_ p.miss,I_ (ag (!s.gyro) p.lost),I_ p.faults])),[]) else bif s.gyro then bif bif true then s.pair else false then bif decide (ag (bif true then s.lit else false) p.good ≥ 2) then some (AV.val (Value.agg (List.toArray [I_ 2,I_ 0,I_ 0,I_ 0,I_ 0,I_ p.faults])),[]) else some (AV.val (Value.agg (List.toArray [I_ p.mode,I_ p.calm,I_ (ag (bif true then s.lit else false) p.good),I_ p.miss,I_ (ag (!s.gyro) p.lost),I_ p.faults])),[]) else bif decide (ag false p.good ≥ 2) then some (AV.val (Value.agg (List.toArray [I_ 2,I_ 0,I_ 0,I_ 0,I_ 0,I_ p.faults])),[]) else some (AV.val (Value.agg (List.toArray [I_ p.mode,I_ p.calm,I_ (ag false p.good),I_ p.miss,I_ (ag (!s.gyro) p.lost),I_ p.faults])),[]) else bif decide (ag false p.good ≥ 2) then some (AV.val (Value.agg (List.toArray [I_ 2,I_ 0,I_ 0,I_ 0,I_ 0,I_ p.faults])),[]) else some (AV.val (Value.agg (List.toArray [I_ p.mode,I_ p.calm,I_ (ag false p.good),I_ p.miss,I_ (ag (!s.gyro) p.lost),I_ p.faults])),[]) else some (AV.val (Value.agg (List.toArray [I_ p.mode,I_ p.calm,I_ p.good,I_ p.miss,I_ (ag (!s.gyro) p.lost),I_ p.faults])),[])):=by kernel_rfl
theorem orV_eq (a b : Int) : orV a b = IntKind.i64.wrap ↑(BitVec.ofInt IntKind.i64.bits a ||| BitVec.ofInt IntKind.i64.bits b).toNat:=rfl
theorem z2 : decide ((0 : Int) ≥ 2) = false:=rfl
theorem z3 : decide ((0 : Int) ≥ 3) = false:=rfl
theorem z5 : decide ((0 : Int) ≥ 5) = false:=rfl
theorem mode_cases (m : Int) : (decide (m < 0) = true ∧ (m == 0) = false ∧ (m == 1) = false ∧ (m == 2) = false ∧ (m == 3) = false) ∨ (decide (m < 0) = false ∧ decide (m > 3) = true ∧ (m == 0) = false ∧ (m == 1) = false ∧ (m == 2) = false ∧ (m == 3) = false) ∨
    m = 0 ∨ m = 1 ∨ m = 2 ∨ m = 3:=by
  by_cases h : m < 0
  · exact .inl ⟨decide_eq_true h,beq_eq_false_iff_ne.2 (by omega),beq_eq_false_iff_ne.2 (by omega),beq_eq_false_iff_ne.2 (by omega),beq_eq_false_iff_ne.2 (by omega)⟩
  · by_cases h' : m > 3
    · exact .inr (.inl ⟨decide_eq_false h,decide_eq_true h',beq_eq_false_iff_ne.2 (by omega),beq_eq_false_iff_ne.2 (by omega),beq_eq_false_iff_ne.2 (by omega),beq_eq_false_iff_ne.2 (by omega)⟩)
    · omega
theorem next9 (p : Pl) (s : Sn) : fnSum Tryz.prog { gam:=[(225,leadsS),(226,agS agV)],loud:=[225] } [] 20 173 [.val (Cod.enc p),.val (Cod.enc s)] [] = some (.val (Cod.enc (nextV p s)),[]):=by
  rw [t9]
  unfold nextV
  cases s.order == 1
  · obtain ⟨mode,calm,good,miss,lost,faults⟩:=p
    dsimp only
    rcases mode_cases mode with ⟨h1,h2,h3,h4,h5⟩ | ⟨h1,h2,h3,h4,h5,h6⟩ | rfl | rfl | rfl | rfl
    · rw [h1,h2,h3,h4,h5]; rfl
    · rw [h1,h2,h3,h4,h5,h6]; rfl
    · obtain ⟨gap,gyro,slow,pair,lit,bad,pass,order⟩:=s
      dsimp only
      cases gap <;> cases gyro <;> cases slow <;> simp only [enc_cond,Int.reduceBEq,Int.reduceBNe,Bool.or_true,Bool.or_false,Bool.true_or,Bool.false_or,z2,z3,z5,agV,toV,← orV_eq,cond_true,cond_false,Bool.and_true,Bool.and_false,Bool.true_and,Bool.false_and] <;> rfl
    · obtain ⟨gap,gyro,slow,pair,lit,bad,pass,order⟩:=s
      dsimp only
      cases gap <;> cases gyro <;> cases slow <;> cases pair <;> cases lit <;> simp only [enc_cond,Int.reduceBEq,Int.reduceBNe,Bool.or_true,Bool.or_false,Bool.true_or,Bool.false_or,z2,z3,z5,agV,toV,← orV_eq,cond_true,cond_false,Bool.and_true,Bool.and_false,Bool.true_and,Bool.false_and,Bool.not_true,Bool.not_false] <;> rfl
    · obtain ⟨gap,gyro,slow,pair,lit,bad,pass,order⟩:=s
      dsimp only
      unfold fineV
      dsimp only
      cases gap <;> cases bad <;> cases gyro <;> cases pair <;> cases lit <;> cases pass <;> simp only [enc_cond,Int.reduceBEq,Int.reduceBNe,Bool.or_true,Bool.or_false,Bool.true_or,Bool.false_or,z2,z3,z5,agV,toV,← orV_eq,cond_true,cond_false,Bool.and_true,Bool.and_false,Bool.true_and,Bool.false_and,Bool.not_true,Bool.not_false] <;> rfl
    · cases s.order == 2 <;> rfl
  · rfl
theorem ok9 : SumOk Tryz.prog 173 (S0 fun (p : Pl × Sn × Unit)=>nextV p.1 p.2.1):=S0_ok (E:={ gam:=[(225,leadsS),(226,agS agV)],loud:=[225] }) (.cons leads_ok (.cons ok15 .nil)) 20 fun a=>next9 a.1 a.2.1
end Go.Ab
namespace Go.Ab
theorem wrapM (z : Int) : IntKind.i64.wrap z = (z + 9223372036854775808) % 18446744073709551616 - 9223372036854775808:=by
  have : IntKind.i64.wrap z = if z % 18446744073709551616 ≥ 9223372036854775808 then z % 18446744073709551616 - 18446744073709551616 else z % 18446744073709551616:=by
    simp [IntKind.wrap,IntKind.bits,IntKind.signed]
  rw [this]
  split <;> omega
end Go.Ab
namespace Go.Ab
open Go
def xorV (k : IntKind) (a b : Int) : Int:=k.wrap ↑(BitVec.ofInt k.bits a ^^^ BitVec.ofInt k.bits b).toNat
theorem wrap8 (x : Nat) : IntKind.u8.wrap (x : Int) = ((x % 256 : Nat) : Int):=by
  simp [IntKind.wrap,IntKind.bits,IntKind.signed]
theorem wrap16 (x : Nat) : IntKind.u16.wrap (x : Int) = ((x % 65536 : Nat) : Int):=by
  simp [IntKind.wrap,IntKind.bits,IntKind.signed]
theorem xor8 {a b : Nat} (ha : a < 256) (hb : b < 256) : xorV .u8 a b = ((a ^^^ b : Nat) : Int):=by
  have h : a ^^^ b < 2 ^ 8:=Nat.xor_lt_two_pow (by omega) (by omega)
  have e : (BitVec.ofInt IntKind.u8.bits (a : Int) ^^^ BitVec.ofInt IntKind.u8.bits (b : Int)).toNat = a ^^^ b:=by
    show (BitVec.ofInt 8 (a : Int) ^^^ BitVec.ofInt 8 (b : Int)).toNat = _
    rw [BitVec.ofInt_natCast,BitVec.ofInt_natCast,BitVec.toNat_xor,BitVec.toNat_ofNat,BitVec.toNat_ofNat,Nat.mod_eq_of_lt (by omega),Nat.mod_eq_of_lt (by omega)]
  unfold xorV
  rw [e,wrap8,Nat.mod_eq_of_lt (by omega)]
theorem xor16 {a b : Nat} (ha : a < 65536) (hb : b < 65536) : xorV .u16 a b = ((a ^^^ b : Nat) : Int):=by
  have h : a ^^^ b < 2 ^ 16:=Nat.xor_lt_two_pow (by omega) (by omega)
  have e : (BitVec.ofInt IntKind.u16.bits (a : Int) ^^^ BitVec.ofInt IntKind.u16.bits (b : Int)).toNat = a ^^^ b:=by
    show (BitVec.ofInt 16 (a : Int) ^^^ BitVec.ofInt 16 (b : Int)).toNat = _
    rw [BitVec.ofInt_natCast,BitVec.ofInt_natCast,BitVec.toNat_xor,BitVec.toNat_ofNat,BitVec.toNat_ofNat,Nat.mod_eq_of_lt (by omega),Nat.mod_eq_of_lt (by omega)]
  unfold xorV
  rw [e,wrap16,Nat.mod_eq_of_lt (by omega)]
def sh1 (r : Nat) : Nat:=(r * 2 % 65536) ^^^ (r / 32768 * 4129)
def sh8 (r : Nat) : Nat:=sh1 (sh1 (sh1 (sh1 (sh1 (sh1 (sh1 (sh1 r)))))))
theorem sh1_lt {r : Nat} (h : r < 65536) : sh1 r < 65536:=by
  unfold sh1
  have h2 : r / 32768 * 4129 < 65536:=by
    have : r / 32768 < 2:=by omega
    omega
  exact Nat.xor_lt_two_pow (n:=16) (by omega) h2
theorem sh8_lt {r : Nat} (h : r < 65536) : sh8 r < 65536:=by
  unfold sh8
  exact sh1_lt (sh1_lt (sh1_lt (sh1_lt (sh1_lt (sh1_lt (sh1_lt (sh1_lt h)))))))
theorem div_xor {a b : Nat} : (a ^^^ b) / 32768 = (a / 32768) ^^^ (b / 32768):=by
  have e : ∀ x : Nat,x / 32768 = x >>> 15:=fun x=>by rw [Nat.shiftRight_eq_div_pow]
  rw [e,e,e,Nat.shiftRight_xor_distrib]
theorem dbl_xor {a b : Nat} : (a ^^^ b) * 2 % 65536 = (a * 2 % 65536) ^^^ (b * 2 % 65536):=by
  have e : ∀ x : Nat,x * 2 % 65536 = (x <<< 1) % 2 ^ 16:=fun x=>by rw [Nat.shiftLeft_eq]
  rw [e,e,e,Nat.shiftLeft_xor_distrib,Nat.xor_mod_two_pow]
theorem xor4 (x y z v : Nat) : (x ^^^ y) ^^^ (z ^^^ v) = (x ^^^ z) ^^^ (y ^^^ v):=by rw [Nat.xor_assoc,← Nat.xor_assoc y z v,Nat.xor_comm y z,Nat.xor_assoc z y v,← Nat.xor_assoc x z]
theorem xor3f {r z y w : Nat} (h : r = z ^^^ y) : r ^^^ w = z ^^^ (y ^^^ w):=by rw [h,Nat.xor_assoc]
theorem sh1_xor {a b : Nat} (ha : a < 65536) (hb : b < 65536) : sh1 (a ^^^ b) = sh1 a ^^^ sh1 b:=by
  unfold sh1
  rw [div_xor,dbl_xor]
  have h1 : a / 32768 = 0 ∨ a / 32768 = 1:=by omega
  have h2 : b / 32768 = 0 ∨ b / 32768 = 1:=by omega
  have key : ((a / 32768) ^^^ (b / 32768)) * 4129 = (a / 32768 * 4129) ^^^ (b / 32768 * 4129):=by
    rcases h1 with h1 | h1 <;> rcases h2 with h2 | h2 <;> rw [h1,h2] <;> rfl
  rw [key]
  exact xor4 _ _ _ _
theorem sh8_xor {a b : Nat} (ha : a < 65536) (hb : b < 65536) : sh8 (a ^^^ b) = sh8 a ^^^ sh8 b:=by
  unfold sh8
  have l1 : ∀ {x : Nat},x < 65536→sh1 x < 65536:=sh1_lt
  rw [sh1_xor ha hb,sh1_xor (l1 ha) (l1 hb),sh1_xor (l1 (l1 ha)) (l1 (l1 hb)),sh1_xor (l1 (l1 (l1 ha))) (l1 (l1 (l1 hb))),sh1_xor (l1 (l1 (l1 (l1 ha)))) (l1 (l1 (l1 (l1 hb)))),
    sh1_xor (l1 (l1 (l1 (l1 (l1 ha))))) (l1 (l1 (l1 (l1 (l1 hb))))),sh1_xor (l1 (l1 (l1 (l1 (l1 (l1 ha)))))) (l1 (l1 (l1 (l1 (l1 (l1 hb)))))),sh1_xor (l1 (l1 (l1 (l1 (l1 (l1 (l1 ha))))))) (l1 (l1 (l1 (l1 (l1 (l1 (l1 hb)))))))]
theorem sh8_low : ∀ x : Fin 256,sh8 x.val = x.val * 256:=by decide +kernel
def stT (r c : Nat) : Nat:=(r * 256 % 65536) ^^^ sh8 ((r / 256 ^^^ c) * 256)
def stR (r c : Nat) : Nat:=sh8 (r ^^^ (c * 256))
theorem st_eq {r c : Nat} (hr : r < 65536) (hc : c < 256) : stT r c = stR r c:=by
  have e : r ^^^ (c * 256) = (r % 256) ^^^ ((r / 256 ^^^ c) * 256):=by
    have h1 : r = (r % 256) ^^^ (r / 256 * 256):=by
      have h2 : r % 256 < 2 ^ 8:=by omega
      have:=Nat.two_pow_add_eq_or_of_lt h2 (r / 256)
      apply Nat.eq_of_testBit_eq
      intro i
      rw [Nat.testBit_xor]
      have e1 : r % 256 = r % 2 ^ 8:=rfl
      have e2 : r / 256 * 256 = (r >>> 8) <<< 8:=by rw [Nat.shiftLeft_eq,Nat.shiftRight_eq_div_pow]
      rw [e1,e2,Nat.testBit_mod_two_pow,Nat.testBit_shiftLeft,Nat.testBit_shiftRight]
      by_cases hi : i < 8
      · simp [hi,show ¬ 8 ≤ i by omega]
      · simp [hi,show 8 ≤ i by omega,show 8 + (i - 8) = i by omega]
    have h3 : (r / 256 ^^^ c) * 256 = (r / 256 * 256) ^^^ (c * 256):=by
      have e : ∀ x : Nat,x * 256 = x <<< 8:=fun x=>by rw [Nat.shiftLeft_eq]
      rw [e,e,e,Nat.shiftLeft_xor_distrib]
    rw [h3]
    exact xor3f h1
  have hx : r / 256 ^^^ c < 2 ^ 8:=Nat.xor_lt_two_pow (by omega) (by omega)
  unfold stT stR
  rw [e,sh8_xor (by omega) (by omega)]
  have:=sh8_low ⟨r % 256,by omega⟩
  simp only at this
  rw [this]
  congr 1
  omega
theorem st_lt {r c : Nat} (hr : r < 65536) (hc : c < 256) : stR r c < 65536:=by
  unfold stR
  exact sh8_lt (Nat.xor_lt_two_pow (n:=16) (by omega) (by omega))
def crcF (l : List UInt8) (r : Nat) : Nat:=l.foldl (fun r b=>stR r b.toNat) r
theorem crcF_lt : ∀ (l : List UInt8) (r : Nat),r < 65536→crcF l r < 65536
  | [],r,h=>h
  | b :: l,r,h=>by
    unfold crcF
    rw [List.foldl_cons]
    exact crcF_lt l _ (st_lt h b.toNat_lt)
end Go.Ab
namespace Go.Ab
open Go Go.Proofs
def others (N : Nat) (ts : List Nat) : List Nat:=(nums 0 N).filter fun i=>!hasN ts i
def anyA : Nat→AV:=fun _=>.any
def mkSt (N : Nat) (sl : List Nat) (vs : List Value) (fx : List (Nat × Nat × Nat)) (rows : RowsV) (rv : List Value) (lo hi st : Nat) : St:=lvSt N sl fx (others N (sl ++ fx.map (·.1))) rows (vs ++ rv) anyA lo hi st
abbrev fr2 : Nat:=1532495540865888858358347027150309183618739122183606272
abbrev frL : Nat:=3064991081731777716716694054300618367237478244367208448
abbrev frH : Nat:=1606938044258990275541962092341162602522202993782792835305472
abbrev frT : Nat:=1532495540865888858358347027150309183618739122183602176
noncomputable abbrev frRun (G : Gam) (N : Nat) (c : Code) (s : St) (keep : List Nat) (ts : List Nat) : Option (Ex × St):=run Tryz.prog (callN Tryz.prog { gam:=G } 1) N { quiet:=isSum G } [] 50 (Ex × St) c s (fun e s=>some (e,dropSt keep (others N ts) s))
noncomputable def tC : Code:=Tryz.f247.body.getD .skip
noncomputable def tc0 : Code:=seqL tC
noncomputable def tc1 : Code:=seqL (seqR tC)
noncomputable def tc2 : Code:=seqL (seqL (seqR (seqR tC)))
noncomputable def tB : Code:=inB (inB (seqR (seqL (seqR (seqR tC)))))
noncomputable def tcE : Code:=seqR (seqR (seqR tC))
theorem tC_is : Tryz.f247.body = some (.seq tc0 (.seq tc1 (.seq (.seq tc2 (.block 0 (.loop tB))) tcE))):=by kernel_rfl
def tabN : List Nat:=(nums 0 256).map fun i=>sh8 (i * 256)
def u16s (l : List Nat) : List Value:=l.map fun (x : Nat)=>.int .u16 x
def tZ (k : Nat) : List Value:=List.replicate k (.int .u16 0)
def tS (i : Nat) : St:=mkSt 24 [4] [.int .i64 i] [(0,4096,0),(1,fr2,0)] [(4096,284,256),(fr2,284,256)] (tZ 256 ++ (u16s (tabN.take i) ++ tZ (256 - i))) frL frH frT
theorem tb0 : frRun [] 24 tc0 ⟨([] : List Value).map .val ++ List.replicate (24 - ([] : List Value).length) (.val undef),[],4096,frH,frT,[]⟩ [4096] [0] = some (.normal,mkSt 24 [] [] [(0,4096,0)] [(4096,284,256)] (tZ 256) fr2 frH frT):=by kernel_rfl
theorem tb1 : frRun [] 24 tc1 (mkSt 24 [] [] [(0,4096,0)] [(4096,284,256)] (tZ 256) fr2 frH frT) [4096,fr2] [0,1] = some (.normal,mkSt 24 [] [] [(0,4096,0),(1,fr2,0)] [(4096,284,256),(fr2,284,256)] (tZ 256 ++ tZ 256) frL frH frT):=by kernel_rfl
theorem tb2 : frRun [] 24 tc2 (mkSt 24 [] [] [(0,4096,0),(1,fr2,0)] [(4096,284,256),(fr2,284,256)] (tZ 256 ++ tZ 256) frL frH frT) [4096,fr2] [0,1,4] = some (.normal,tS 0):=by kernel_rfl
noncomputable def tRound (i : Nat) : Option (Ex × St):=frRun [] 24 tB (tS i) [4096,fr2] [0,1,4]
theorem tr_0 : (nums 0 8).map (fun i=>(tRound i,okNamed (tS (i + 1)))) = (nums 0 8).map fun i=>(some (.normal,tS (i + 1)),true):=by kernel_rfl
theorem tr_1 : (nums 8 8).map (fun i=>(tRound i,okNamed (tS (i + 1)))) = (nums 8 8).map fun i=>(some (.normal,tS (i + 1)),true):=by kernel_rfl
theorem tr_2 : (nums 16 8).map (fun i=>(tRound i,okNamed (tS (i + 1)))) = (nums 16 8).map fun i=>(some (.normal,tS (i + 1)),true):=by kernel_rfl
theorem tr_3 : (nums 24 8).map (fun i=>(tRound i,okNamed (tS (i + 1)))) = (nums 24 8).map fun i=>(some (.normal,tS (i + 1)),true):=by kernel_rfl
theorem tr_4 : (nums 32 8).map (fun i=>(tRound i,okNamed (tS (i + 1)))) = (nums 32 8).map fun i=>(some (.normal,tS (i + 1)),true):=by kernel_rfl
theorem tr_5 : (nums 40 8).map (fun i=>(tRound i,okNamed (tS (i + 1)))) = (nums 40 8).map fun i=>(some (.normal,tS (i + 1)),true):=by kernel_rfl
theorem tr_6 : (nums 48 8).map (fun i=>(tRound i,okNamed (tS (i + 1)))) = (nums 48 8).map fun i=>(some (.normal,tS (i + 1)),true):=by kernel_rfl
theorem tr_7 : (nums 56 8).map (fun i=>(tRound i,okNamed (tS (i + 1)))) = (nums 56 8).map fun i=>(some (.normal,tS (i + 1)),true):=by kernel_rfl
theorem tr_8 : (nums 64 8).map (fun i=>(tRound i,okNamed (tS (i + 1)))) = (nums 64 8).map fun i=>(some (.normal,tS (i + 1)),true):=by kernel_rfl
theorem tr_9 : (nums 72 8).map (fun i=>(tRound i,okNamed (tS (i + 1)))) = (nums 72 8).map fun i=>(some (.normal,tS (i + 1)),true):=by kernel_rfl
theorem tr_10 : (nums 80 8).map (fun i=>(tRound i,okNamed (tS (i + 1)))) = (nums 80 8).map fun i=>(some (.normal,tS (i + 1)),true):=by kernel_rfl
theorem tr_11 : (nums 88 8).map (fun i=>(tRound i,okNamed (tS (i + 1)))) = (nums 88 8).map fun i=>(some (.normal,tS (i + 1)),true):=by kernel_rfl
theorem tr_12 : (nums 96 8).map (fun i=>(tRound i,okNamed (tS (i + 1)))) = (nums 96 8).map fun i=>(some (.normal,tS (i + 1)),true):=by kernel_rfl
theorem tr_13 : (nums 104 8).map (fun i=>(tRound i,okNamed (tS (i + 1)))) = (nums 104 8).map fun i=>(some (.normal,tS (i + 1)),true):=by kernel_rfl
theorem tr_14 : (nums 112 8).map (fun i=>(tRound i,okNamed (tS (i + 1)))) = (nums 112 8).map fun i=>(some (.normal,tS (i + 1)),true):=by kernel_rfl
theorem tr_15 : (nums 120 8).map (fun i=>(tRound i,okNamed (tS (i + 1)))) = (nums 120 8).map fun i=>(some (.normal,tS (i + 1)),true):=by kernel_rfl
theorem tr_16 : (nums 128 8).map (fun i=>(tRound i,okNamed (tS (i + 1)))) = (nums 128 8).map fun i=>(some (.normal,tS (i + 1)),true):=by kernel_rfl
theorem tr_17 : (nums 136 8).map (fun i=>(tRound i,okNamed (tS (i + 1)))) = (nums 136 8).map fun i=>(some (.normal,tS (i + 1)),true):=by kernel_rfl
theorem tr_18 : (nums 144 8).map (fun i=>(tRound i,okNamed (tS (i + 1)))) = (nums 144 8).map fun i=>(some (.normal,tS (i + 1)),true):=by kernel_rfl
theorem tr_19 : (nums 152 8).map (fun i=>(tRound i,okNamed (tS (i + 1)))) = (nums 152 8).map fun i=>(some (.normal,tS (i + 1)),true):=by kernel_rfl
theorem tr_20 : (nums 160 8).map (fun i=>(tRound i,okNamed (tS (i + 1)))) = (nums 160 8).map fun i=>(some (.normal,tS (i + 1)),true):=by kernel_rfl
theorem tr_21 : (nums 168 8).map (fun i=>(tRound i,okNamed (tS (i + 1)))) = (nums 168 8).map fun i=>(some (.normal,tS (i + 1)),true):=by kernel_rfl
theorem tr_22 : (nums 176 8).map (fun i=>(tRound i,okNamed (tS (i + 1)))) = (nums 176 8).map fun i=>(some (.normal,tS (i + 1)),true):=by kernel_rfl
theorem tr_23 : (nums 184 8).map (fun i=>(tRound i,okNamed (tS (i + 1)))) = (nums 184 8).map fun i=>(some (.normal,tS (i + 1)),true):=by kernel_rfl
theorem tr_24 : (nums 192 8).map (fun i=>(tRound i,okNamed (tS (i + 1)))) = (nums 192 8).map fun i=>(some (.normal,tS (i + 1)),true):=by kernel_rfl
theorem tr_25 : (nums 200 8).map (fun i=>(tRound i,okNamed (tS (i + 1)))) = (nums 200 8).map fun i=>(some (.normal,tS (i + 1)),true):=by kernel_rfl
theorem tr_26 : (nums 208 8).map (fun i=>(tRound i,okNamed (tS (i + 1)))) = (nums 208 8).map fun i=>(some (.normal,tS (i + 1)),true):=by kernel_rfl
theorem tr_27 : (nums 216 8).map (fun i=>(tRound i,okNamed (tS (i + 1)))) = (nums 216 8).map fun i=>(some (.normal,tS (i + 1)),true):=by kernel_rfl
theorem tr_28 : (nums 224 8).map (fun i=>(tRound i,okNamed (tS (i + 1)))) = (nums 224 8).map fun i=>(some (.normal,tS (i + 1)),true):=by kernel_rfl
theorem tr_29 : (nums 232 8).map (fun i=>(tRound i,okNamed (tS (i + 1)))) = (nums 232 8).map fun i=>(some (.normal,tS (i + 1)),true):=by kernel_rfl
theorem tr_30 : (nums 240 8).map (fun i=>(tRound i,okNamed (tS (i + 1)))) = (nums 240 8).map fun i=>(some (.normal,tS (i + 1)),true):=by kernel_rfl
theorem tr_31 : (nums 248 8).map (fun i=>(tRound i,okNamed (tS (i + 1)))) = (nums 248 8).map fun i=>(some (.normal,tS (i + 1)),true):=by kernel_rfl
theorem tr_end : frRun [] 24 tB (tS 256) [4096,fr2] [0,1] = some (.exit 0,mkSt 24 [] [] [(0,4096,0),(1,fr2,0)] [(4096,284,256),(fr2,284,256)] (tZ 256 ++ u16s tabN) frL frH frT):=by kernel_rfl
theorem tbE : frRun [] 24 tcE (mkSt 24 [] [] [(0,4096,0),(1,fr2,0)] [(4096,284,256),(fr2,284,256)] (tZ 256 ++ u16s tabN) frL frH frT) [4096] [0] = some (.ret,mkSt 24 [] [] [(0,4096,0)] [(4096,284,256)] (u16s tabN) frL frH frT):=by kernel_rfl
theorem tRes : resA Tryz.prog (mkSt 24 [] [] [(0,4096,0)] [(4096,284,256)] (u16s tabN) frL frH frT) Tryz.f247.results.toList = some [.val (.agg (List.toArray (u16s tabN)))]:=by kernel_rfl
theorem tOk0 : okNamed (mkSt 24 [] [] [(0,4096,0)] [(4096,284,256)] (tZ 256) fr2 frH frT) = true:=by kernel_rfl
theorem tOk1 : okNamed (mkSt 24 [] [] [(0,4096,0),(1,fr2,0)] [(4096,284,256),(fr2,284,256)] (tZ 256 ++ tZ 256) frL frH frT) = true:=by kernel_rfl
theorem tOk2 : okNamed (tS 0) = true:=by kernel_rfl
theorem tOk3 : okNamed (mkSt 24 [] [] [(0,4096,0),(1,fr2,0)] [(4096,284,256),(fr2,284,256)] (tZ 256 ++ u16s tabN) frL frH frT) = true:=by kernel_rfl
theorem tOk4 : okNamed (mkSt 24 [] [] [(0,4096,0)] [(4096,284,256)] (u16s tabN) frL frH frT) = true:=by kernel_rfl
theorem f19_is : Tryz.prog.funcs[247]? = some Tryz.f247:=by kernel_rfl
theorem tr_pick {k : Nat} (h : (nums k 8).map (fun i=>(tRound i,okNamed (tS (i + 1)))) = (nums k 8).map fun i=>(some (.normal,tS (i + 1)),true)) {i : Nat} (h1 : k ≤ i) (h2 : i < k + 8) : tRound i = some (.normal,tS (i + 1)) ∧ okNamed (tS (i + 1)) = true:=by
  have hh:=congrArg (fun l=>l[i - k]?) h
  simp only [List.getElem?_map] at hh
  have e : (nums k 8)[i - k]? = some i:=by
    have:=List.getElem?_eq_getElem (l:=nums k 8) (i:=i - k) (by simp [nums]; omega)
    obtain ⟨h3,_⟩:=nums_get 8 k (i - k) _ this
    rw [this,h3]
    congr 1
    omega
  rw [e] at hh
  simp only [Option.map_some,Option.some.injEq,Prod.mk.injEq] at hh
  exact hh
theorem tr_at {i : Nat} (hi : i < 256) : tRound i = some (.normal,tS (i + 1)) ∧ okNamed (tS (i + 1)) = true:=by
  rcases Nat.lt_or_ge i 8 with h | h0
  · exact tr_pick tr_0 (by omega) (by omega)
  rcases Nat.lt_or_ge i 16 with h | h1
  · exact tr_pick tr_1 (by omega) (by omega)
  rcases Nat.lt_or_ge i 24 with h | h2
  · exact tr_pick tr_2 (by omega) (by omega)
  rcases Nat.lt_or_ge i 32 with h | h3
  · exact tr_pick tr_3 (by omega) (by omega)
  rcases Nat.lt_or_ge i 40 with h | h4
  · exact tr_pick tr_4 (by omega) (by omega)
  rcases Nat.lt_or_ge i 48 with h | h5
  · exact tr_pick tr_5 (by omega) (by omega)
  rcases Nat.lt_or_ge i 56 with h | h6
  · exact tr_pick tr_6 (by omega) (by omega)
  rcases Nat.lt_or_ge i 64 with h | h7
  · exact tr_pick tr_7 (by omega) (by omega)
  rcases Nat.lt_or_ge i 72 with h | h8
  · exact tr_pick tr_8 (by omega) (by omega)
  rcases Nat.lt_or_ge i 80 with h | h9
  · exact tr_pick tr_9 (by omega) (by omega)
  rcases Nat.lt_or_ge i 88 with h | h10
  · exact tr_pick tr_10 (by omega) (by omega)
  rcases Nat.lt_or_ge i 96 with h | h11
  · exact tr_pick tr_11 (by omega) (by omega)
  rcases Nat.lt_or_ge i 104 with h | h12
  · exact tr_pick tr_12 (by omega) (by omega)
  rcases Nat.lt_or_ge i 112 with h | h13
  · exact tr_pick tr_13 (by omega) (by omega)
  rcases Nat.lt_or_ge i 120 with h | h14
  · exact tr_pick tr_14 (by omega) (by omega)
  rcases Nat.lt_or_ge i 128 with h | h15
  · exact tr_pick tr_15 (by omega) (by omega)
  rcases Nat.lt_or_ge i 136 with h | h16
  · exact tr_pick tr_16 (by omega) (by omega)
  rcases Nat.lt_or_ge i 144 with h | h17
  · exact tr_pick tr_17 (by omega) (by omega)
  rcases Nat.lt_or_ge i 152 with h | h18
  · exact tr_pick tr_18 (by omega) (by omega)
  rcases Nat.lt_or_ge i 160 with h | h19
  · exact tr_pick tr_19 (by omega) (by omega)
  rcases Nat.lt_or_ge i 168 with h | h20
  · exact tr_pick tr_20 (by omega) (by omega)
  rcases Nat.lt_or_ge i 176 with h | h21
  · exact tr_pick tr_21 (by omega) (by omega)
  rcases Nat.lt_or_ge i 184 with h | h22
  · exact tr_pick tr_22 (by omega) (by omega)
  rcases Nat.lt_or_ge i 192 with h | h23
  · exact tr_pick tr_23 (by omega) (by omega)
  rcases Nat.lt_or_ge i 200 with h | h24
  · exact tr_pick tr_24 (by omega) (by omega)
  rcases Nat.lt_or_ge i 208 with h | h25
  · exact tr_pick tr_25 (by omega) (by omega)
  rcases Nat.lt_or_ge i 216 with h | h26
  · exact tr_pick tr_26 (by omega) (by omega)
  rcases Nat.lt_or_ge i 224 with h | h27
  · exact tr_pick tr_27 (by omega) (by omega)
  rcases Nat.lt_or_ge i 232 with h | h28
  · exact tr_pick tr_28 (by omega) (by omega)
  rcases Nat.lt_or_ge i 240 with h | h29
  · exact tr_pick tr_29 (by omega) (by omega)
  rcases Nat.lt_or_ge i 248 with h | h30
  · exact tr_pick tr_30 (by omega) (by omega)
  exact tr_pick tr_31 (by omega) (by omega)
theorem frCall : ∀ β,CallOk Tryz.prog (callN Tryz.prog { gam:=([] : Gam) } 1 β):=callN_ok (E:={ gam:=[] }) GamOk.nil 1
theorem table_calls (w : World) : Calls Tryz.prog 247 #[] w fun e w'=>∃ v,e = .returned v ∧ RowKit.Below w.heap.size w w' ∧ v = .agg (List.toArray (u16s tabN)):=by
  refine calls_of_wp f19_is tC_is ?_
  have hst:=Stand.start (N:=24) [] w 4096 frH frT (by simp)
  refine wp_seq ((runs_drop frCall _ _ tb0).stand tOk0 hst fun a1 w1 h1=>?_)
  refine wp_seq ((runs_drop frCall _ _ tb1).stand tOk1 h1 fun a2 w2 h2=>?_)
  refine wp_seq (wp_seq ((runs_drop frCall _ _ tb2).stand tOk2 h2 fun a3 w3 h3=>?_))
  have go : ∀ (k i : Nat) (Q : Exit→Act→World→Prop) (a' : Act) (w' : World),i + k = 256→(∀ a'' w'',Stand (fun k=>k < w.heap.size) w 24 (mkSt 24 [] [] [(0,4096,0),(1,fr2,0)] [(4096,284,256),(fr2,284,256)] (tZ 256 ++ u16s tabN) frL frH frT) a'' w''→Q (.exit 0) a'' w'') →
      Stand (fun k=>k < w.heap.size) w 24 (tS i) a' w'→Code.rounds Tryz.prog tB Q (k + 1) a' w':=by
    intro k
    induction k with
    | zero =>
      intro i Q a' w' hi hQ hS
      have : i = 256:=by omega
      subst this
      rw [rounds_succ]
      exact (runs_drop frCall _ _ tr_end).stand tOk3 hS fun a5 w5 h5=>hQ a5 w5 h5
    | succ k ih =>
      intro i Q a' w' hi hQ hS
      obtain ⟨t1,t2⟩:=tr_at (i:=i) (by omega)
      rw [rounds_succ]
      exact (runs_drop frCall _ _ t1).stand t2 hS fun a5 w5 h5=>ih (i + 1) Q a5 w5 (by omega) hQ h5
  refine wp_block (wp_loop_rounds 257 (go 256 0 _ a3 w3 rfl (fun a4 w4 h4=>?_) h3))
  refine (runs_drop frCall _ _ tbE).stand tOk4 h4 fun a5 w5 h5=>?_
  obtain ⟨h6,h7,h8⟩:=h5.results (P:=Tryz.prog) (fn:=Tryz.f247) tRes
  exact bodyPost_ret h6 h7 ⟨_,rfl,h8.below,rfl⟩
end Go.Ab
namespace Go.Ab
open Go Go.Proofs
noncomputable def pC : Code:=Tryz.f231.body.getD .skip
noncomputable def p0 : Code:=seqL pC
noncomputable def pO1 : Array Oper:=regO (seqL (seqR pC))
noncomputable def p2 : Code:=seqL (seqR (seqR pC))
noncomputable def pT : Code:=seqR (seqR (seqR pC))
noncomputable def pO3 : Array Oper:=regO (seqL (seqL pT))
noncomputable def pE : Code:=seqR pT
noncomputable def pL : Code:=inB (inB (seqR (seqL pT)))
noncomputable def p4 : Code:=seqL pL
noncomputable def pM : Code:=inB (seqL (seqR (seqR pL)))
noncomputable def p7 : Code:=seqR (seqR (seqR pL))
noncomputable def pO5 : Array Oper:=regO (seqL pM)
noncomputable def pO6 : Array Oper:=regO (seqR pM)
theorem pC_is : Tryz.f231.body = some (.seq p0 (.seq (.region 1 pO1 false) (.seq p2 (.seq (.seq (.region 3 pO3 false) (.block 0 (.loop pL))) pE)))):=by kernel_rfl
theorem pL_is : pL = .seq p4 (.seq (.cond (.tmp 12) .skip (.exit 0)) (.seq (.block 1 (.seq (.region 5 pO5 false) (.region 6 pO6 false))) p7)):=by kernel_rfl
noncomputable def gC : Code:=Tryz.f192.body.getD .skip
noncomputable def g0 : Code:=seqL gC
noncomputable def g1 : Code:=seqL (seqR gC)
noncomputable def gT : Code:=seqR (seqR gC)
noncomputable def g2 : Code:=seqL (seqL gT)
noncomputable def gL : Code:=inB (inB (seqR (seqL gT)))
noncomputable def g3 : Code:=seqL (seqL gL)
noncomputable def gM : Code:=inB (seqL (seqR gL))
noncomputable def g6 : Code:=seqL (seqR gM)
def pS0 (s : ByteArray) : St:=mkSt 27 [0] [.string s] [] [] [] 4096 frH frT
def pS1 (s : ByteArray) : St:=mkSt 27 [0] [.string s] [(3,4096,0)] [(4096,284,256)] (u16s tabN) fr2 frH frT
def pS2 (s : ByteArray) (r : Int) : St:=mkSt 27 [0,4] [.string s,.int .u16 r] [(3,4096,0)] [(4096,284,256)] (u16s tabN) fr2 frH frT
def pS (sl : List (Nat × Value)) (v : Value) (n i r : Int) : St:=mkSt 27 ([9,10,11,4] ++ sl.map (·.1)) ([v,.int .i64 n,.int .i64 i,.int .u16 r] ++ sl.map (·.2)) [(3,4096,0)] [(4096,284,256)] (u16s tabN) fr2 frH frT
abbrev pB : List Nat:=[9,10,11,4,3]
theorem zpr0 (s : ByteArray) : frRun [] 27 p0 ⟨[Value.string s].map .val ++ List.replicate (27 - [Value.string s].length) (.val undef),[],4096,frH,frT,[]⟩ [] [0] = some (.normal,pS0 s):=by kernel_rfl
noncomputable abbrev frOps (N : Nat) (ops : Array Oper) (l : List Oper) (s : St) (keep ts : List Nat) : Option (Bool × St):=opsRun Tryz.prog (callN Tryz.prog { gam:=([] : Gam) } 1 (Bool × St)) (isSum ([] : Gam)) N ops l s [] (endOps keep (others N ts))
theorem zpr1 (s : ByteArray) : frOps 27 pO1 (pO1.toList.drop 1) { pS0 s with tmps:=(pS0 s).tmps.set 7 (.val (.agg (List.toArray (u16s tabN)))) } [4096] [0,3] = some (true,pS1 s):=by kernel_rfl
theorem zpr2 (s : ByteArray) : frRun [] 27 p2 (pS1 s) [4096] [0,4,3] = some (.normal,pS2 s 65535):=by kernel_rfl
theorem zpr3 (s : ByteArray) (r : Int) (a : Option Addr) (n c : Nat) : frOps 27 pO3 (pO3.toList.drop 2) { pS2 s r with tmps:=((pS2 s r).tmps.set 8 (.val (.string s))).set 9 (.val (.slice a n c)) } [4096] pB = some (true,pS [] (.slice a n c) n 0 r):=by kernel_rfl
theorem pfr4 (v : Value) (n i r : Int) : frRun [] 27 p4 (pS [] v n i r) [4096] (12 :: pB) = some (.normal,pS [(12,.bool (decide (i < n)))] v n i r):=by kernel_rfl
theorem zpr5 (v x : Value) (n i r c : Int) : frOps 27 pO5 (pO5.toList.drop 2) { pS [] v n i r with tmps:=((pS [] v n i r).tmps.set 13 (.val x)).set 14 (.val (.int .u8 c)) } [4096] (6 :: pB) = some (true,pS [(6,.int .u8 c)] v n i r):=by kernel_rfl
theorem pr6 (v : Value) (n i r c : Int) : frOps 27 pO6 (pO6.toList.take 7) (pS [(6,.int .u8 c)] v n i r) [4096] (16 :: 21 :: pB) =
    some (true,pS [(16,.int .u16 (IntKind.u16.wrap (r * 2 ^ 8))),(21,.int .u8 (xorV .u8 (IntKind.u8.wrap (r.fdiv (2 ^ 8))) c))] v n i r):=by kernel_rfl
theorem pr6b (v : Value) (n i r x q : Int) (j : Nat) : frOps 27 pO6 (pO6.toList.drop 9) { pS [(16,.int .u16 x),(21,.int .u8 q)] v n i r with tmps:=((pS [(16,.int .u16 x),(21,.int .u8 q)] v n i r).tmps.set 22 (.ptr 4096 j)).set 23 (.val (.int .u16 (tabN.getD j 0 : Nat))) } [4096] pB =
    some (true,pS [] v n i (xorV .u16 x (tabN.getD j 0 : Nat))):=by kernel_rfl
theorem pr7 (v : Value) (n i r : Int) : frRun [] 27 p7 (pS [] v n i r) [4096] pB = some (.normal,pS [] v n (IntKind.i64.wrap (i + 1)) r):=by kernel_rfl
def pSE (r : Int) : St:=mkSt 27 [2] [.int .u16 r] [] [] [] fr2 frH frT
theorem zprE (v : Value) (n i r : Int) : frRun [] 27 pE (pS [] v n i r) [] [2] = some (.ret,pSE r):=by kernel_rfl
theorem pRes (r : Int) : resA Tryz.prog (pSE r) Tryz.f231.results.toList = some [.val (.int .u16 r)]:=by kernel_rfl
end Go.Ab
namespace Go.Ab
open Go Go.Proofs
theorem f9_is : Tryz.prog.funcs[231]? = some Tryz.f231:=by kernel_rfl
theorem f19_on : (Tryz.f247.body.isSome && !Tryz.f247.name == "runtime.NumGoroutine") = true := by kernel_rfl
def cTab : Call:={ callee:=.value (.func 247),args:=#[],argTypes:=#[] }
theorem q1_0 : sigOf pO1 0 = some (.call cTab,some 7,true):=by kernel_rfl
theorem q1_n : List.range pO1.size = 0 :: ((List.range (pO1.toList.drop 1).length).map (1 + ·) ++ []):=by kernel_rfl
theorem q3_0 : sigOf pO3 0 = some (.move (.tmp 0),some 8,true):=by kernel_rfl
theorem q3_1 : sigOf pO3 1 = some (.convert 9 227 (.tmp 8),some 9,true):=by kernel_rfl
theorem q3_n : List.range pO3.size = 0 :: 1 :: ((List.range (pO3.toList.drop 2).length).map (2 + ·) ++ []):=by kernel_rfl
theorem q5_0 : sigOf pO5 0 = some (.indexAddr 227 (.tmp 9) (.tmp 11),some 13,true):=by kernel_rfl
theorem q5_1 : sigOf pO5 1 = some (.load 5 (.tmp 13),some 14,true):=by kernel_rfl
theorem q5_n : List.range pO5.size = 0 :: 1 :: ((List.range (pO5.toList.drop 2).length).map (2 + ·) ++ []):=by kernel_rfl
theorem q6_7 : sigOf pO6 7 = some (.indexAddr 284 (.tmp 3) (.tmp 21),some 22,true):=by kernel_rfl
theorem q6_8 : sigOf pO6 8 = some (.load 229 (.tmp 22),some 23,true):=by kernel_rfl
theorem q6_n : List.range pO6.size = (List.range (pO6.toList.take 7).length).map (0 + ·) ++ (7 :: 8 :: ((List.range (pO6.toList.drop 9).length).map (9 + ·) ++ [])):=by kernel_rfl
theorem v9 : Tryz.prog.underlying 9 = some .string:=by kernel_rfl
theorem v38 : Tryz.prog.underlying 227 = some (.slice 5):=by kernel_rfl
theorem zv5 : Tryz.prog.underlying 5 = some (.int .u8):=by kernel_rfl
theorem v40 : Tryz.prog.underlying 284 = some (.array 256 229):=by kernel_rfl
theorem v22 : Tryz.prog.underlying 229 = some (.int .u16):=by kernel_rfl
theorem j5 : (Tryz.prog.info? 5).map (·.size) = some 1:=by kernel_rfl
theorem j22 : (Tryz.prog.info? 229).map (·.size) = some 1:=by kernel_rfl
theorem drop_at {ops : Array Oper} {k j : Nat} {o : Oper} (h : (ops.toList.drop k)[j]? = some o) : ops[k + j]? = some o:=by
  rw [List.getElem?_drop,Array.getElem?_toList] at h
  exact h
theorem take_at {ops : Array Oper} {k j : Nat} {o : Oper} (h : (ops.toList.take k)[j]? = some o) : ops[0 + j]? = some o:=by
  rw [List.getElem?_take] at h
  split at h
  · rw [Array.getElem?_toList] at h
    rw [Nat.zero_add]
    exact h
  · cases h
theorem mid_at {ops : Array Oper} {k n j : Nat} {o : Oper} (h : ((ops.toList.drop k).take n)[j]? = some o) : ops[k + j]? = some o:=by
  rw [List.getElem?_take] at h
  split at h
  · rw [List.getElem?_drop,Array.getElem?_toList] at h
    exact h
  · cases h
theorem info_of {t n : Nat} (h : (Tryz.prog.info? t).map (·.size) = some n) : ∃ ti,Tryz.prog.info? t = some ti ∧ ti.size = n:=by
  cases hi : Tryz.prog.info? t with
  | none=>rw [hi] at h; cases h
  | some ti=>rw [hi] at h; exact ⟨ti,rfl,by simpa using h⟩
section
variable (s : ByteArray) (v : Value) (n i r k c x q : Int) (b : Bool)
theorem oP0 : okNamed (pS0 s) = true:=by kernel_rfl
theorem oP1 : okNamed (pS1 s) = true:=by kernel_rfl
theorem oP2 : okNamed (pS2 s r) = true:=by kernel_rfl
theorem oP : okNamed (pS [] v n i r) = true:=by kernel_rfl
theorem oP12 : okNamed (pS [(12,.bool b)] v n i r) = true:=by kernel_rfl
theorem oP6 : okNamed (pS [(6,.int .u8 c)] v n i r) = true:=by kernel_rfl
theorem oP62 : okNamed (pS [(16,.int .u16 x),(21,.int .u8 q)] v n i r) = true:=by kernel_rfl
theorem oPE : okNamed (pSE r) = true:=by kernel_rfl
theorem wP12 : dropSt [4096] (others 27 pB) (pS [(12,.bool b)] v n i r) = pS [] v n i r:=by kernel_rfl
theorem lP0 : (pS0 s).tmps.length = 27:=by kernel_rfl
theorem lP2 : (pS2 s r).tmps.length = 27:=by kernel_rfl
theorem lP : (pS [] v n i r).tmps.length = 27:=by kernel_rfl
theorem lP62 : (pS [(16,.int .u16 x),(21,.int .u8 q)] v n i r).tmps.length = 27:=by kernel_rfl
theorem hP62 : hget (pS [(16,.int .u16 x),(21,.int .u8 q)] v n i r).heap 4096 = some (.row 284 ((u16s tabN).map .val)):=by kernel_rfl
end
theorem Keep.wide {F : Nat→Prop} {w0 w w' w'' : World} (h : Keep F w0 w) (h1 : w'.os = w.os) (h2 : w'.tape = w.tape) (h3 : w'.output = w.output) (hg : w.heap.size ≤ w'.heap.size) (hs : ∀ j,F j→w'.heap[j]? = w.heap[j]?) (k : Keep (Wide F w w') w' w'') : Keep F w0 w'' :=
  ⟨k.os.trans (h1.trans h.os),k.tape.trans (h2.trans h.tape),k.output.trans (h3.trans h.output),Nat.le_trans h.grown (Nat.le_trans hg k.grown),fun x hx=>⟨(h.frame x hx).1,(k.frame x (.inl hx)).2.trans ((hs x hx).trans (h.frame x hx).2)⟩⟩
theorem tab_at {j : Nat} (hj : j < 256) : tabN.getD j 0 = sh8 (j * 256) ∧ ((u16s tabN).map AV.val)[j]? = some (.val (.int .u16 (tabN.getD j 0 : Nat))):=by
  have e : (nums 0 256)[j]? = some j:=by
    have hl : (nums 0 256).length = 256:=by kernel_rfl
    have:=List.getElem?_eq_getElem (l:=nums 0 256) (i:=j) (by omega)
    obtain ⟨h1,_⟩:=nums_get 256 0 j _ this
    rw [this,h1,Nat.zero_add]
  have h : tabN[j]? = some (sh8 (j * 256)):=by unfold tabN; rw [List.getElem?_map,e]; rfl
  have h2 : tabN.getD j 0 = sh8 (j * 256):=by rw [List.getD_eq_getElem?_getD,h]; rfl
  refine ⟨h2,?_⟩
  rw [h2]
  unfold u16s
  rw [List.getElem?_map,List.getElem?_map,h]
  rfl
theorem byte_at {l : List UInt8} {i : Nat} (hi : i < l.length) : l.take (i + 1) = l.take i ++ [l.getD i 0]:=by
  rw [List.take_add_one,List.getElem?_eq_getElem hi,List.getD_eq_getElem?_getD,List.getElem?_eq_getElem hi]
  rfl
theorem crcF_snoc (l : List UInt8) (b : UInt8) (r : Nat) : crcF (l ++ [b]) r = stR (crcF l r) b.toNat:=by unfold crcF; rw [List.foldl_append]; rfl
theorem bytesWorld_kept (w : World) (e : TypeId) (s : ByteArray) : (Lib.bytesWorld w e s).os = w.os ∧ (Lib.bytesWorld w e s).tape = w.tape ∧ (Lib.bytesWorld w e s).output = w.output:=⟨rfl,rfl,rfl⟩
theorem shl8 (r : Nat) : IntKind.u16.wrap ((r : Int) * 2 ^ 8) = ((r * 256 % 65536 : Nat) : Int):=by
  have e : (r : Int) * 2 ^ 8 = ((r * 256 : Nat) : Int):=by omega
  rw [e,wrap16]
theorem shr8 (r : Nat) : (r : Int).fdiv (2 ^ 8) = ((r / 256 : Nat) : Int):=by
  rw [Int.fdiv_eq_ediv_of_nonneg _ (by decide)]
  omega
attribute [local irreducible] u16s tabN
theorem sum_round {w0 : World} {F : Nat→Prop} {s : ByteArray} {blk cap : Nat} (hF : F blk) (hc : ∀ j,j < s.size→w0.cell? ⟨blk,j,none⟩ = some (.int .u8 (s.data.toList.getD j 0).toNat)) (hsz : s.size ≤ 4611686018427387904) {Q : Exit→Act→World→Prop}
    (hQ : ∀ a' w',Stand F w0 27 (pS [] (.slice (some ⟨blk,0,none⟩) s.size cap) s.size s.size (crcF s.data.toList 65535 : Nat)) a' w'→Q (.exit 0) a' w') :
    ∀ (m i : Nat) (act : Act) (w : World),i + m = s.size→Stand F w0 27 (pS [] (.slice (some ⟨blk,0,none⟩) s.size cap) s.size i (crcF (s.data.toList.take i) 65535 : Nat)) act w→Code.rounds Tryz.prog pL Q (m + 1) act w:=by
  have hlen : s.data.toList.length = s.size:=rfl
  intro m
  induction m with
  | zero =>
    intro i act w hi hst
    rw [rounds_succ,pL_is]
    refine wp_seq ((runs_drop frCall _ _ (pfr4 _ _ _ _)).stand (oP12 ..) hst fun a1 w1 h1=>?_)
    have hb : decide ((i : Int) < (s.size : Int)) = false:=decide_eq_false (by omega)
    rw [hb] at h1
    refine wp_seq (wp_cond_false (h1.eval (t:=12) rfl) (wp_exit ?_))
    have hi' : i = s.size:=by omega
    subst hi'
    rw [← hlen,List.take_length] at h1
    refine hQ a1 w1 (h1.weak ?_ (Nat.le_refl _) (Nat.le_refl _))
    rw [← wP12 _ _ _ _ false]
    exact dropSt_wk _ _ _
  | succ m ih =>
    intro i act w hi hst
    rw [rounds_succ,pL_is]
    refine wp_seq ((runs_drop frCall _ _ (pfr4 _ _ _ _)).stand (oP12 ..) hst fun a1 w1 h1=>?_)
    have hb : decide ((i : Int) < (s.size : Int)) = true:=decide_eq_true (by omega)
    rw [hb] at h1
    refine wp_seq (wp_cond_true (h1.eval (t:=12) rfl) (wp_skip ?_))
    have h2 : Stand F w0 27 (pS [] (.slice (some ⟨blk,0,none⟩) s.size cap) s.size i (crcF (s.data.toList.take i) 65535 : Nat)) a1 w1:=by
      refine h1.weak ?_ (Nat.le_refl _) (Nat.le_refl _)
      rw [← wP12 _ _ _ _ true]
      exact dropSt_wk _ _ _
    generalize hr : crcF (s.data.toList.take i) 65535 = r at h2
    have hrl : r < 65536:=by rw [← hr]; exact crcF_lt _ _ (by omega)
    generalize hcc : (s.data.toList.getD i 0) = c
    have hcl : c.toNat < 256:=c.toNat_lt
    obtain ⟨ti,hti,hs1⟩:=info_of j5
    refine wp_seq (wp_block (wp_seq (wp_region ?_)))
    rw [q5_n]
    refine index_stand q5_0 (by omega) (lP ..) v38 hti h2 (b:=⟨blk,0,none⟩) (len:=s.size) (cap:=cap) (i:=i) (ik:=.i64) (h2.eval (t:=9) rfl) (h2.eval (t:=11) rfl) (by omega) _ fun a3 h3=>?_
    have hcell : w1.cell? ((⟨blk,0,none⟩ : Addr).add (i * ti.size)) = some (.int .u8 (c.toNat : Int)):=by
      rw [hs1,Nat.mul_one,addr_add,Nat.zero_add]
      have:=hc i (by omega)
      rw [hcc] at this
      have e:=(h2.keep.frame blk hF).2
      unfold World.cell? at this ⊢
      rw [e]
      exact this
    refine load_stand q5_1 (by omega) (by rw [List.length_set]; exact lP ..) h3 (h3.eval (t:=13) rfl) (run_loadScalar zv5 rfl hcell) _ fun a4 h4=>?_
    refine ops_stand (frCall _) (qf:=isSum ([] : Gam)) [4096] _ (zpr5 (.slice (some ⟨blk,0,none⟩) s.size cap) (.pointer (some ((⟨blk,0,none⟩ : Addr).add (i * ti.size)))) s.size i r c.toNat) (fun _ _ hj=>drop_at hj) (oP6 (.slice (some ⟨blk,0,none⟩) s.size cap) s.size i r c.toNat) h4 [] fun a5 w5 h5=>?_
    refine wp_region ?_
    rw [q6_n]
    refine ops_stand (frCall _) (qf:=isSum ([] : Gam)) [4096] _ (pr6 (.slice (some ⟨blk,0,none⟩) s.size cap) s.size i r c.toNat) (fun _ _ hj=>take_at hj) (oP62 ..) h5 _ fun a6 w6 h6=>?_
    have e1 : IntKind.u16.wrap ((r : Int) * 2 ^ 8) = ((r * 256 % 65536 : Nat) : Int):=shl8 r
    have hx : (r / 256 ^^^ c.toNat) < 2 ^ 8:=Nat.xor_lt_two_pow (by omega) (by omega)
    have e2 : xorV .u8 (IntKind.u8.wrap ((r : Int).fdiv (2 ^ 8))) (c.toNat : Int) = ((r / 256 ^^^ c.toNat : Nat) : Int):=by
      rw [shr8,wrap8,Nat.mod_eq_of_lt (by omega),xor8 (by omega) hcl]
    rw [e1,e2] at h6
    obtain ⟨t22,h22,s22⟩:=info_of j22
    obtain ⟨b1,b2⟩:=tab_at (j:=r / 256 ^^^ c.toNat) (by omega)
    refine own_index q6_7 (by omega) (lP62 ..) v40 h22 s22 h6 (b:=4096) (j:=r / 256 ^^^ c.toNat) (ik:=.u8) rfl rfl (by omega) _ fun a7 h7=>?_
    refine own_load q6_8 (by omega) (by rw [List.length_set]; exact lP62 ..) v22 rfl h7 (b:=4096) (j:=r / 256 ^^^ c.toNat) rfl (hP62 ..) b2 _ fun a8 h8=>?_
    refine ops_stand (frCall _) (qf:=isSum ([] : Gam)) [4096] _ (pr6b (.slice (some ⟨blk,0,none⟩) s.size cap) s.size i r (r * 256 % 65536 : Nat) (r / 256 ^^^ c.toNat : Nat) (r / 256 ^^^ c.toNat)) (fun _ _ hj=>drop_at hj) (oP ..) h8 [] fun a9 w9 h9=>?_
    have e3 : xorV .u16 ((r * 256 % 65536 : Nat) : Int) (tabN.getD (r / 256 ^^^ c.toNat) 0 : Nat) = ((crcF (s.data.toList.take (i + 1)) 65535 : Nat) : Int):=by
      have hs8 : sh8 ((r / 256 ^^^ c.toNat) * 256) < 65536:=sh8_lt (by omega)
      rw [b1,xor16 (by omega) hs8,byte_at (by omega),crcF_snoc,hr,hcc,← st_eq hrl hcl]
      rfl
    rw [e3] at h9
    refine (runs_drop frCall _ _ (pr7 _ _ _ _)).stand (oP ..) h9 fun a10 w10 h10=>?_
    have hw : IntKind.i64.wrap ((i : Int) + 1) = ((i + 1 : Nat) : Int):=by rw [wrapM]; omega
    rw [hw] at h10
    exact ih (i + 1) a10 w10 (by omega) h10
theorem sum_calls (s : ByteArray) (hsz : s.size ≤ 4611686018427387904) (w : World) : Calls Tryz.prog 231 #[.string s] w fun e w'=>∃ v,e = .returned v ∧ RowKit.Below w.heap.size w w' ∧ v = .int .u16 (crcF s.data.toList 65535 : Nat):=by
  refine calls_of_wp f9_is pC_is ?_
  have hst:=Stand.start (N:=27) [.string s] w 4096 frH frT (by simp)
  refine wp_seq ((runs_drop frCall _ _ (zpr0 s)).stand (oP0 s) hst fun a1 w1 h1=>?_)
  refine wp_seq (wp_region ?_)
  rw [q1_n]
  refine call_world q1_0 (by omega) (lP0 s) h1 rfl f19_is f19_on (args:=#[]) (by simp [cTab]) (table_calls w1) _ fun v a2 w2 hv hb h2=>?_
  subst hv
  have K2 : ∀ w'',Keep (Wide (fun k=>k < w.heap.size) w1 w2) w2 w''→Keep (fun k=>k < w.heap.size) w w'':=fun w'' k=>h1.keep.wide hb.os hb.tape hb.output hb.size (fun j hj=>hb.block j (h1.keep.lt hj)) k
  refine ops_stand (frCall _) (qf:=isSum ([] : Gam)) [4096] _ (zpr1 s) (fun _ _ hj=>drop_at hj) (oP1 ..) h2 [] fun a3 w3 h3=>?_
  refine wp_seq ((runs_drop frCall _ _ (zpr2 s)).stand (oP2 ..) h3 fun a4 w4 h4=>?_)
  refine wp_seq (wp_seq (wp_region ?_))
  rw [q3_n]
  refine move_stand q3_0 (by omega) (lP2 ..) h4 (v:=.string s) (h4.eval (t:=0) rfl) _ fun a5 h5=>?_
  refine op_world q3_1 (by omega) (by rw [List.length_set]; exact lP2 ..) h5 (v:=.slice (some ⟨w4.heap.size,0,none⟩) s.size (grownCap w4 s.size 0 5)) (w':=Lib.bytesWorld w4 5 s) (fun o ho=>?_) (by rw [Lib.bytesWorld_size]; omega) (fun j hj _=>Lib.bytesWorld_at_old w4 5 s j hj) _ fun a6 h6=>?_
  · have hx : a5.eval (.tmp 8) = .string s:=h5.eval (t:=8) rfl
    simp only [execOp,ho,hx,Sem.run_bind,Lib.run_convert_string_bytes w4 9 227 5 s v9 v38 zv5,Result.andThen_ok,Sem.run_pure]
  refine ops_stand (frCall _) (qf:=isSum ([] : Gam)) [4096] _ (zpr3 s 65535 (some ⟨w4.heap.size,0,none⟩) s.size (grownCap w4 s.size 0 5)) (fun _ _ hj=>drop_at hj) (oP (.slice (some ⟨w4.heap.size,0,none⟩) s.size (grownCap w4 s.size 0 5)) s.size 0 65535) h6 [] fun a7 w7 h7=>?_
  obtain ⟨z1,z2,z3⟩:=bytesWorld_kept w4 5 s
  have K3 : ∀ w'',Keep (Wide (Wide (fun k=>k < w.heap.size) w1 w2) w4 (Lib.bytesWorld w4 5 s)) (Lib.bytesWorld w4 5 s) w''→Keep (fun k=>k < w.heap.size) w w'':=fun w'' k =>
    K2 w'' (h4.keep.wide z1 z2 z3 (by rw [Lib.bytesWorld_size]; omega) (fun j hj=>Lib.bytesWorld_at_old w4 5 s j (h4.keep.lt hj)) k)
  refine wp_block (wp_loop_rounds (s.size + 1) (sum_round (blk:=w4.heap.size) (cap:=grownCap w4 s.size 0 5) (.inr ⟨Nat.le_refl _,by rw [Lib.bytesWorld_size]; omega⟩) (fun j hj=>Lib.bytesWorld_cell w4 5 s j hj) hsz (fun a8 w8 h8=>?_) s.size 0 a7 w7 (by omega) h7))
  refine (runs_drop frCall _ _ (zprE _ _ _ _)).stand (oPE ..) h8 fun a9 w9 h9=>?_
  obtain ⟨y1,y2,y3⟩:=h9.results (P:=Tryz.prog) (fn:=Tryz.f231) (pRes _)
  exact bodyPost_ret y1 y2 ⟨_,rfl,(K3 _ y3).below,rfl⟩
end Go.Ab
namespace Go.Ab
open Go Go.Proofs
def szOk (p : ByteArray × Unit) : Bool:=decide (p.1.size ≤ 4611686018427387904)
def crcN (p : ByteArray × Unit) : N16:=⟨crcF p.1.data.toList 65535⟩
theorem okSum : SumOk Tryz.prog 231 (S0w szOk crcN):=S0w_of fun a w h=>sum_calls a.1 (of_decide_eq_true h) w
end Go.Ab
namespace Go.Ab
open Go Go.Proofs
structure Fr where
  kind : Int
  data : ByteArray
instance : Cod Fr where
  enc x:=.agg #[.int .i64 x.kind,.string x.data]
  dec v:=match v with | .agg ⟨[.int .i64 k,.string d]⟩=>some ⟨k,d⟩ | _=>none
  law v a h:=by split at h <;> simp_all; subst h; simp
end Go.Ab
namespace Go.Ab
open Go Go.Proofs
section
variable {P : Program} {N : Nat} {ops : Array Oper} {Q : Exit→Act→World→Prop} {F : Nat→Prop} {w0 : World} {s : St} {a : Act} {w : World}
theorem alloc_old (w : World) (o : Obj) (j : Nat) (hj : j < w.heap.size) : (w.alloc o).heap[j]? = w.heap[j]?:=by
  show (w.heap.push o)[j]? = _
  rw [Array.getElem?_push_lt hj,Array.getElem?_eq_getElem hj]
theorem build_stand {k d len : Nat} {t elem : TypeId} {parts : Array (Nat × Operand)} {vals : List (Nat × Value)} {cells : List Value} (hs : sigOf ops k = some (.buildSlice t len parts,some d,true)) (hd : d < N) (hlen : s.tmps.length = N) (hh : Stand F w0 N s a w)
    (hv : parts.toList.map (fun p=>(p.1,a.eval p.2)) = vals) (hc : sliceCells P t len vals = some (elem,cells)) (rest : List Nat)
    (hK : ∀ a',Stand (Wide F w (w.alloc (.cells (List.toArray cells) elem))) (w.alloc (.cells (List.toArray cells) elem)) N { s with tmps:=s.tmps.set d (.val (.slice (some ⟨w.heap.size,0,none⟩) len len)) } a' (w.alloc (.cells (List.toArray cells) elem))→wpOps P ops Q rest a' (w.alloc (.cells (List.toArray cells) elem))) : wpOps P ops Q (k :: rest) a w:=by
  refine op_world hs hd hlen hh (fun o ho=>?_) (by show w.heap.size ≤ (w.heap.push _).size; rw [Array.size_push]; omega) (fun j hj _=>alloc_old w _ j hj) rest hK
  have e1 : (parts.map fun (x : Nat × Operand)=>(x.1,a.eval x.2)) = List.toArray vals:=by
    rw [← hv]
    apply Array.toList_inj.1
    simp
  have e2:=sliceCells_run (P:=P) hc w
  rw [← e1] at e2
  simp only [execOp,ho,Sem.run_bind,e2]
  rfl
theorem append_stand {k d : Nat} {x y : Operand} {ts : Array TypeId} {v v' u : Value} {w' : World} (hs : sigOf ops k = some (.call { callee:=.builtin .append,args:=#[x,y],argTypes:=ts },some d,true)) (hd : d < N) (hlen : s.tmps.length = N) (hh : Stand F w0 N s a w)
    (hx : a.eval x = v) (hy : a.eval y = u) (hrun : ∀ ty,(Builtin.append_ ts ty #[v,u]).run P w = .ok v' w') (hg : w.grownBy w' v.ownBlock) (hF : ∀ r,v.ownBlock = some r→F r) (rest : List Nat)
    (hK : ∀ a',Stand (Wide F w w') w' N { s with tmps:=s.tmps.set d (.val v') } a' w'→wpOps P ops Q rest a' w') : wpOps P ops Q (k :: rest) a w:=by
  refine op_world hs hd hlen hh (fun o ho=>?_) hg.size (fun j hj hFj=>hg.block j hj fun e=>hFj (hF j e.symm)) rest hK
  have e : ∀ f : Value→Value,(#[x,y].map a.eval) = #[v,u]:=fun _=>by simp [hx,hy]
  simp only [execOp,ho,resolve,invoke,Go.builtin,Sem.run_bind,Sem.run_pure,Result.andThen_ok,hx,hy,List.map_toArray,List.map_cons,List.map_nil,hrun]
end
theorem owns_alloc (w : World) (e : TypeId) (cells : List Value) (n : Nat) (hn : cells.length = n) (hm : n ≤ maxLen) : (w.alloc (.cells (List.toArray cells) e)).ownsRow w.heap.size e 1 (.slice (some ⟨w.heap.size,0,none⟩) n n) n cells:=by
  refine ⟨by omega,.inr ⟨w.heap.size,n,List.toArray cells,rfl,Nat.le_refl _,?_,Nat.le_refl _,hm,by simp [hn],by simp [← hn]⟩⟩
  show (w.heap.push _)[w.heap.size]? = _
  simp
theorem bytes_string {P : Program} {w : World} {g off len cap : Nat} {src dst e e' : TypeId} {cur : Array Value} {ns : List Int} (hs : P.underlying src = some (.slice e)) (he : P.underlying e = some (.int .u8)) (hd : P.underlying dst = some .string)
    (hg : w.heap[g]? = some (.cells cur e' (0,0))) (hx : (cur.toList.drop off).take len = ns.map (Value.int .u8)) (hl : ns.length = len) :
    (convert src dst (.slice (some ⟨g,off,none⟩) len cap)).run P w = .ok (.string (ns.foldl pushI ByteArray.empty)) w:=by
  have hload:=run_loadCells_row (P:=P) w g off len e' (0,0) cur.toList _ hg hx (by simpa using hl)
  rw [run_convert_bytes_string w src dst e _ _ _ hs he hd,run_bytesToString w _ _ _ ns hload]
  rfl
section
variable {P : Program} (w : World)
def NewRow (w : World) (v v' : Value) : Prop:=∀ r,v'.ownBlock = some r→v.ownBlock = some r ∨ w.heap.size ≤ r
theorem append_fresh (t ty e : TypeId) (i : TypeInfo) (z : Value) (size bytes : Nat) (ht : P.underlying t = some (.slice e)) (hi : P.info? e = some i) (hz : i.zero = some z)
    (hsize : i.size = size) (hby : i.bytes = bytes) (hzs : z.cells.size = size) (hsz : 0 < size) (base : Nat)
    (v : Value) (n : Nat) (xs : List Value) (hown : w.ownsRow base e size v n xs)
    (a : Addr) (m c : Nat) (news : List Value) (hl : news.length = m * size) (hnews : ∀ j u,news[j]? = some u→w.cell? (a.add j) = some u) (h1 : ∀ u ∈ news,u.oneCell' = true)
    (h63 : n + m ≤ maxLen) (hbytes : (n + m) * bytes ≤ 140737488355328) (hbase : base ≤ w.heap.size) :
    ∃ v' w',(∀ ty,(Builtin.append_ #[t,t] ty #[v,.slice (some a) m c]).run P w = .ok v' w') ∧ w'.ownsRow base e size v' (n + m) (xs ++ news) ∧ w.grownBy w' v.ownBlock ∧ NewRow w v v':=by
  obtain ⟨v',w',hr,h2,h3,h4⟩:=run_append_own (P:=P) w base t ty e i z size bytes ht hi hz hsize hby hzs hsz v n xs hown a m c news hl hnews h1 h63 hbytes hbase
  refine ⟨v',w',fun ty=>hr,h2,h3,?_⟩
  subst hsize
  subst hby
  have hsmall : n + m ≤ 9223372036854775807:=by simp only [maxLen] at h63; omega
  rcases hown.2 with ⟨rfl,rfl⟩ | ⟨g,cap,cur,rfl,hbg,hg,hnc,hcm,hcs,htake⟩
  · by_cases hm : m = 0
    · have:=h4.2 ⟨rfl,hm⟩
      subst this
      intro r hr'; cases hr'
    · have hq:=run_append_nil (P:=P) w t ty e i z ht hi hz a m c news hl hnews (by omega) (by omega) (by have hb:=hbytes; simp only [Nat.zero_add] at hb; omega)
      rw [hq] at hr
      cases hr
      intro r hr'; cases hr'; exact .inr (Nat.le_refl _)
  · by_cases hroom : n + m ≤ cap
    · have hfit : n * i.size + news.length ≤ cur.size:=by rw [hl,hcs,← Nat.add_mul]; exact Nat.mul_le_mul_right _ hroom
      have hq:=run_append_room (P:=P) w t ty e i ht hi g n cap cur hg a m c news hl hnews h1 hroom hfit
      rw [hq] at hr
      cases hr
      intro r hr'; exact .inl hr'
    · have holds : ∀ j u,xs[j]? = some u→w.cell? ((⟨g,0,none⟩ : Addr).add j) = some u:=hown.cells (g:=g) rfl
      have hq:=run_append_grow (P:=P) w t ty e i z ht hi hz ⟨g,0,none⟩ n cap xs hown.1 holds a m c news hl hnews (by omega) (by omega) (growslice_fits (by omega) hbytes)
      rw [hq] at hr
      cases hr
      intro r hr'; cases hr'; exact .inr (Nat.le_refl _)
theorem append_fresh_string (t u ty e : TypeId) (i : TypeInfo) (ht : P.underlying t = some (.slice e)) (hu : P.underlying u = some .string) (hi : P.info? e = some i) (hz : i.zero = some (.int .u8 0))
    (hsize : i.size = 1) (hby : i.bytes = 1) (base : Nat) (v : Value) (n : Nat) (xs : List Value) (hown : w.ownsRow base e 1 v n xs) (hv : 0 < n) (s : ByteArray)
    (h63 : n + s.size ≤ maxLen) (hbytes : n + s.size ≤ 140737488355328) (hbase : base ≤ w.heap.size) :
    ∃ v' w',(∀ ty,(Builtin.append_ #[t,u] ty #[v,.string s]).run P w = .ok v' w') ∧ w'.ownsRow base e 1 v' (n + s.size) (xs ++ Lib.strCells s) ∧ w.grownBy w' v.ownBlock ∧ NewRow w v v':=by
  obtain ⟨v',w',hr,h2,h3,h4⟩:=Lib.run_append_own_string (P:=P) w base t u ty e i ht hu hi hz hsize hby v n xs hown s h63 hbytes hbase
  refine ⟨v',w',fun ty=>hr,h2,h3,?_⟩
  rcases hown.2 with ⟨rfl,rfl⟩ | ⟨g,cap,cur,rfl,hbg,hg,hnc,hcm,hcs,htake⟩
  · omega
  · by_cases hroom : n + s.size ≤ cap
    · have hcs' : cur.size = cap:=by simpa using hcs
      have hq:=Lib.run_append_room_string (P:=P) w t u ty e i ht hu hi hsize g n cap cur hg s hroom (by omega)
      rw [hq] at hr
      cases hr
      intro r hr'; exact .inl hr'
    · have holds : ∀ j u,xs[j]? = some u→w.cell? ((⟨g,0,none⟩ : Addr).add j) = some u:=hown.cells (g:=g) rfl
      have hq:=Lib.run_append_grow_string (P:=P) w t u ty e i (.int .u8 0) ht hu hi hz ⟨g,0,none⟩ n cap xs (by rw [hsize]; exact hown.1) holds s (by omega) (by simp only [maxLen] at h63; omega) (by rw [hby]; exact growslice_fits (by omega) (by omega))
      rw [hq] at hr
      cases hr
      intro r hr'; cases hr'; exact .inr (Nat.le_refl _)
end
end Go.Ab
namespace Go.Ab
open Go Go.Proofs
theorem Stand.resultsV {P : Program} {fn : Func} {F : Nat→Prop} {w0 : World} {N : Nat} {s : St} {a : Act} {w : World} (h : Stand F w0 N s a w) {ls : List AV} {v : Value} (hr : resA P s fn.results.toList = some ls) (hp : pack ls = .val v) :
    (Go.results fn a.tmps).run P w = .ok v w ∧ a.defers = [] ∧ Keep F w0 w:=by
  obtain ⟨σ,h1,h2,_⟩:=h
  obtain ⟨x,h3,h4,h5⟩:=h1.results hr
  rw [hp] at h4
  simp only [Rel] at h4
  subst h4
  exact ⟨h3,h5,h2⟩
noncomputable def wC : Code:=Tryz.f178.body.getD .skip
noncomputable def wp0 : Code:=seqL wC
noncomputable def wp1 : Code:=seqL (seqR wC)
noncomputable def wT : Code:=seqR (seqR wC)
noncomputable def wO3 : Array Oper:=regO (seqL wT)
noncomputable def wO4 : Array Oper:=regO (seqL (seqR wT))
noncomputable def wO5 : Array Oper:=regO (seqL (seqR (seqR wT)))
theorem zwC_is : Tryz.f178.body = some (.seq wp0 (.seq wp1 (.seq (.region 3 wO3 false) (.seq (.region 4 wO4 false) (.seq (.region 5 wO5 false) .ret))))):=by kernel_rfl
def wS (k : Int) (s : ByteArray) (sl : List (Nat × Value)) : St:=mkSt 44 (sl.map (·.1)) (sl.map (·.2)) [(1,4096,0)] [(4096,74,2)] [.int .i64 k,.string s] fr2 frH frT
def zwE (l : List (Nat × Value)) : St:=mkSt 44 (l.map (·.1)) (l.map (·.2)) [] [] [] fr2 frH frT
theorem zwq0 (k : Int) (s : ByteArray) : frRun [] 44 wp0 ⟨[Value.agg #[.int .i64 k,.string s]].map .val ++ List.replicate (44 - [Value.agg #[.int .i64 k,.string s]].length) (.val undef),[],4096,frH,frT,[]⟩ [4096] [1] = some (.normal,wS k s []):=by kernel_rfl
theorem zwq1 (k : Int) (s : ByteArray) : frRun [] 44 wp1 (wS k s []) [4096] [1,2,3] =
    bif decide (k < 0) then some (.ret,wS k s [(2,.string ⟨#[]⟩),(3,.bool false)]) else bif bif false then true else decide (k > 255) then some (.ret,wS k s [(2,.string ⟨#[]⟩),(3,.bool false)]) else
      bif bif false then true else decide ((s.size : Int) > 64) then some (.ret,wS k s [(2,.string ⟨#[]⟩),(3,.bool false)]) else some (.normal,{ wS k s [] with tmps:=(wS k s []).tmps }):=by kernel_rfl
theorem wq3 (k : Int) (s : ByteArray) : frOps 44 wO3 (wO3.toList.take 7) (wS k s []) [4096] [1,22,26] = some (true,wS k s [(22,.int .u8 (IntKind.u8.wrap k)),(26,.int .u8 (IntKind.u8.wrap s.size))]):=by kernel_rfl
theorem wq3b (k x y : Int) (s : ByteArray) (v : Value) : frOps 44 wO3 ((wO3.toList.drop 8).take 2) { wS k s [(22,.int .u8 x),(26,.int .u8 y)] with tmps:=(wS k s [(22,.int .u8 x),(26,.int .u8 y)]).tmps.set 27 (.val v) } [4096] [1,27,29] = some (true,wS k s [(27,v),(29,.string s)]):=by kernel_rfl
theorem wq3c (k : Int) (s : ByteArray) (v : Value) (a : Option Addr) (n cap : Nat) : frOps 44 wO3 (wO3.toList.drop 11) { wS k s [(27,v),(29,.string s)] with tmps:=(wS k s [(27,v),(29,.string s)]).tmps.set 30 (.val (.slice a n cap)) } [4096] [1,4] = some (true,wS k s [(4,.slice a n cap)]):=by kernel_rfl
theorem wq4 (k : Int) (s : ByteArray) (u x y z : Value) (c : Int) : frOps 44 wO4 (wO4.toList.drop 4) { wS k s [(4,u)] with tmps:=((((wS k s [(4,u)]).tmps.set 31 (.val x)).set 32 (.val y)).set 33 (.val z)).set 34 (.val (.int .u16 c)) } [4096] [1,4,5] = some (true,wS k s [(4,u),(5,.int .u16 c)]):=by kernel_rfl
theorem wq5 (k c : Int) (s : ByteArray) (a : Option Addr) (n cap : Nat) : frOps 44 wO5 (wO5.toList.take 6) (wS k s [(4,.slice a n cap),(5,.int .u16 c)]) [4096] [1,35,38,40] = some (true,wS k s [(35,.slice a n cap),(38,.int .u8 (IntKind.u8.wrap (c.fdiv (2 ^ 8)))),(40,.int .u8 (IntKind.u8.wrap c))]):=by kernel_rfl
theorem wq5b (k x y : Int) (s r : ByteArray) (u v z : Value) : frOps 44 wO5 (wO5.toList.drop 9) { wS k s [(35,u),(38,.int .u8 x),(40,.int .u8 y)] with tmps:=(((wS k s [(35,u),(38,.int .u8 x),(40,.int .u8 y)]).tmps.set 41 (.val v)).set 42 (.val z)).set 43 (.val (.string r)) } [] [2,3] = some (true,zwE [(2,.string r),(3,.bool true)]):=by kernel_rfl
theorem wqR (r : ByteArray) (b : Bool) : resA Tryz.prog (zwE [(2,.string r),(3,.bool b)]) Tryz.f178.results.toList = some [.val (.string r),.val (.bool b)]:=by kernel_rfl
theorem wqR' (k : Int) (s r : ByteArray) (b : Bool) : resA Tryz.prog (wS k s [(2,.string r),(3,.bool b)]) Tryz.f178.results.toList = some [.val (.string r),.val (.bool b)]:=by kernel_rfl
theorem wpk (r : ByteArray) (b : Bool) : pack [.val (.string r),.val (.bool b)] = .val (.tuple #[.string r,.bool b]):=by kernel_rfl
theorem t3_7 : sigOf wO3 7 = some (.buildSlice 227 3 #[(0,.const (.int .u8 (Int.ofNat 165))),(1,.tmp 22),(2,.tmp 26)],some 27,true):=by kernel_rfl
theorem t3_10 : sigOf wO3 10 = some (.call { callee:=.builtin .append,args:=#[.tmp 27,.tmp 29],argTypes:=#[227,9] },some 30,true):=by kernel_rfl
theorem t3_n : List.range wO3.size = (List.range (wO3.toList.take 7).length).map (0 + ·) ++ (7 :: ((List.range ((wO3.toList.drop 8).take 2).length).map (8 + ·) ++ (10 :: ((List.range (wO3.toList.drop 11).length).map (11 + ·) ++ [])))):=by kernel_rfl
theorem t4_0 : sigOf wO4 0 = some (.move (.tmp 4),some 31,true):=by kernel_rfl
theorem t4_1 : sigOf wO4 1 = some (.slice 227 (.tmp 31) (some (.const (.int .i64 (Int.ofNat 1)))) none none,some 32,true):=by kernel_rfl
theorem t4_2 : sigOf wO4 2 = some (.convert 227 9 (.tmp 32),some 33,true):=by kernel_rfl
def cSum : Call:={ callee:=.value (.func 231),args:=#[.tmp 33],argTypes:=#[9] }
theorem t4_3 : sigOf wO4 3 = some (.call cSum,some 34,true):=by kernel_rfl
theorem t4_n : List.range wO4.size = 0 :: 1 :: 2 :: 3 :: ((List.range (wO4.toList.drop 4).length).map (4 + ·) ++ []):=by kernel_rfl
theorem t5_6 : sigOf wO5 6 = some (.buildSlice 227 2 #[(0,.tmp 38),(1,.tmp 40)],some 41,true):=by kernel_rfl
theorem t5_7 : sigOf wO5 7 = some (.call { callee:=.builtin .append,args:=#[.tmp 35,.tmp 41],argTypes:=#[227,227] },some 42,true):=by kernel_rfl
theorem t5_8 : sigOf wO5 8 = some (.convert 227 9 (.tmp 42),some 43,true):=by kernel_rfl
theorem t5_n : List.range wO5.size = (List.range (wO5.toList.take 6).length).map (0 + ·) ++ (6 :: 7 :: 8 :: ((List.range (wO5.toList.drop 9).length).map (9 + ·) ++ [])):=by kernel_rfl
section
variable (k x y c : Int) (s r : ByteArray) (u v z : Value) (b : Bool)
theorem ow0 : okNamed (wS k s []) = true:=by kernel_rfl
theorem ow1 : okNamed (wS k s [(2,.string r),(3,.bool b)]) = true:=by kernel_rfl
theorem ow2 : okNamed (wS k s [(22,.int .u8 x),(26,.int .u8 y)]) = true:=by kernel_rfl
theorem ow3 : okNamed (wS k s [(27,v),(29,.string s)]) = true:=by kernel_rfl
theorem ow4 : okNamed (wS k s [(4,u)]) = true:=by kernel_rfl
theorem ow5 : okNamed (wS k s [(4,u),(5,v)]) = true:=by kernel_rfl
theorem ow6 : okNamed (wS k s [(35,u),(38,.int .u8 x),(40,.int .u8 y)]) = true:=by kernel_rfl
theorem ow7 : okNamed (zwE [(2,.string r),(3,.bool b)]) = true:=by kernel_rfl
theorem lw0 : (wS k s []).tmps.length = 44:=by kernel_rfl
theorem lw2 : (wS k s [(22,.int .u8 x),(26,.int .u8 y)]).tmps.length = 44:=by kernel_rfl
theorem lw3 : (wS k s [(27,v),(29,.string s)]).tmps.length = 44:=by kernel_rfl
theorem lw4 : (wS k s [(4,u)]).tmps.length = 44:=by kernel_rfl
theorem lw6 : (wS k s [(35,u),(38,.int .u8 x),(40,.int .u8 y)]).tmps.length = 44:=by kernel_rfl
end
end Go.Ab
