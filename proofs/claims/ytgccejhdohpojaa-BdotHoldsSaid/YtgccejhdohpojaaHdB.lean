/- A part of the proof of 'BdotHolds': lemmas, no statement of their own; no condition. -/
import Derived.Test.YtgccejhdohpojaaHdA
/- BdotHolds: what the pieces do. -/
namespace Go.Ab
open Go Go.Proofs
def others (N : Nat) (ts : List Nat) : List Nat := (nums 0 N).filter fun i => !hasN ts i
def anyA : Nat → AV := fun _ => .any
def mkSt (N : Nat) (sl : List Nat) (vs : List Value) (fx : List (Nat × Nat × Nat)) (rows : RowsV) (rv : List Value) (lo hi st : Nat) : St := lvSt N sl fx (others N (sl ++ fx.map (·.1))) rows (vs ++ rv) anyA lo hi st
abbrev hd2 : Nat := 1532495540865888858358347027150309183618739122183606272
abbrev hdL : Nat := 3064991081731777716716694054300618367237478244367208448
abbrev hdH : Nat := 1606938044258990275541962092341162602522202993782792835305472
abbrev hdT : Nat := 1532495540865888858358347027150309183618739122183602176
def hdF1 : List (Nat × Nat × Nat) := [(5, 4096, 0)]
def hdFx : List (Nat × Nat × Nat) := [(5, 4096, 0), (6, hd2, 0)]
def hdFy : List (Nat × Nat × Nat) := [(5, 4096, 0), (6, hd2, 0), (10, hdL, 0)]
def hdR1 : RowsV := [(4096, 25, 1)]
def hdRx : RowsV := [(4096, 25, 1), (hd2, 46, 8)]
def hdRy : RowsV := [(4096, 25, 1), (hd2, 46, 8), (hdL, 33, 3)]
def drCs (d : Dr) : List Value := [.bool d.on, .int .i64 d.tick, .int .i64 d.last.x, .int .i64 d.last.y, .int .i64 d.last.z, .int .i64 d.rate.x, .int .i64 d.rate.y, .int .i64 d.rate.z]
def v3Cs (u : V3) : List Value := [.int .i64 u.x, .int .i64 u.y, .int .i64 u.z]
noncomputable abbrev hdRun (st : Bool → StA → Dr × Bool) (c : Code) (s : St) (keep : List Nat) (ts : List Nat) : Option (Ex × St) := run Try.prog (callN Try.prog { gam := hdG st } 1) 103 { quiet := isSum (hdG st) } [] 50 (Ex × St) c s (fun e s => some (e, dropSt keep (others 103 ts) s))
def hdA0 (v g : Value) : St := mkSt 103 [0, 1] [v, g] [] [] [] 4096 hdH hdT
def hdA5 (v g : Value) : St := mkSt 103 [0, 1] [v, g] hdF1 hdR1 [.bool false] hd2 hdH hdT
def hdA6 (v g : Value) (xs : List (Nat × Value)) : St := mkSt 103 ([0, 1] ++ xs.map (·.1)) ([v, g] ++ xs.map (·.2)) hdFx hdRx (.bool false :: drCs Dr.zero) hdL hdH hdT
def hdE (b : Value) : St := mkSt 103 [4] [b] [] [] [] 4096 hdH hdT
theorem hr0 (st : Bool → StA → Dr × Bool) (v g : Value) : hdRun st h0 ⟨[v, g].map .val ++ List.replicate (103 - [v, g].length) (.val undef), [], 4096, hdH, hdT, []⟩ [] [0, 1] = some (.normal, hdA0 v g) := by kernel_rfl
theorem hr1 (st : Bool → StA → Dr × Bool) (v g : Value) : hdRun st h1 (hdA0 v g) [] [0, 1] = some (.normal, hdA0 v g) := by kernel_rfl
theorem hr3 (st : Bool → StA → Dr × Bool) (a : Option Addr) (n c : Nat) (g : Value) : hdRun st h3 (hdA0 (.slice a n c) g) [] [0, 1, 4] = bif decide ((n : Int) > 100) then some (.ret, mkSt 103 [0, 1, 4] [.slice a n c, g, .bool true] [] [] [] 4096 hdH hdT) else some (.normal, { hdA0 (.slice a n c) g with tmps := (hdA0 (.slice a n c) g).tmps }) := by kernel_rfl
theorem hr5 (st : Bool → StA → Dr × Bool) (v g : Value) : hdRun st h5 (hdA0 v g) [4096] [0, 1, 5] = some (.normal, hdA5 v g) := by kernel_rfl
theorem hr6 (st : Bool → StA → Dr × Bool) (v g : Value) : hdRun st h6 (hdA5 v g) [4096, hd2] [0, 1, 5, 6] = some (.normal, hdA6 v g []) := by kernel_rfl
theorem hr7 (st : Bool → StA → Dr × Bool) (v g : Value) : hdRun st h7 (hdA6 v g []) [4096, hd2] [0, 1, 5, 6, 7] = some (.normal, hdA6 v g [(7, .int .i64 0)]) := by kernel_rfl
theorem hr8 (st : Bool → StA → Dr × Bool) (v g : Value) : hdRun st h8 (hdA6 v g [(7, .int .i64 0)]) [4096, hd2] [0, 1, 5, 6, 7, 8] = some (.normal, hdA6 v g [(7, .int .i64 0), (8, .int .i64 0)]) := by kernel_rfl
/-- At the head of the great loop. -/
def hdS (v g : Value) (n i tk mo : Int) (d : Dr) : St := mkSt 103 [0, 1, 24, 25, 26, 7, 8] [v, g, v, .int .i64 n, .int .i64 i, .int .i64 tk, .int .i64 mo] hdFx hdRx (.bool false :: drCs d) hdL hdH hdT
theorem hr9 (st : Bool → StA → Dr × Bool) (a : Option Addr) (n c : Nat) (g : Value) : hdRun st h9 (hdA6 (.slice a n c) g [(7, .int .i64 0), (8, .int .i64 0)]) [4096, hd2] [0, 1, 24, 25, 26, 7, 8, 5, 6] = some (.normal, hdS (.slice a n c) g n 0 0 0 Dr.zero) := by kernel_rfl
def hdS10 (v g : Value) (n i tk mo : Int) (d : Dr) (b : Bool) : St := mkSt 103 [0, 1, 24, 25, 26, 7, 8, 27] [v, g, v, .int .i64 n, .int .i64 i, .int .i64 tk, .int .i64 mo, .bool b] hdFx hdRx (.bool false :: drCs d) hdL hdH hdT
theorem hr10 (st : Bool → StA → Dr × Bool) (v g : Value) (n i tk mo : Int) (d : Dr) : hdRun st h10 (hdS v g n i tk mo d) [4096, hd2] [0, 1, 24, 25, 26, 7, 8, 27, 5, 6] = some (.normal, hdS10 v g n i tk mo d (decide (i < n))) := by kernel_rfl
/-- With the field of the round, and more in temporaries. -/
def hdJ (v g : Value) (n i tk mo : Int) (d : Dr) (u : V3) (xs : List (Nat × Value)) : St := mkSt 103 ([0, 1, 24, 25, 26, 7, 8, 9] ++ xs.map (·.1)) ([v, g, v, .int .i64 n, .int .i64 i, .int .i64 tk, .int .i64 mo, .int .i64 i] ++ xs.map (·.2)) hdFy hdRy (.bool false :: (drCs d ++ v3Cs u)) (hdL + hdT) hdH hdT
abbrev hdK : List Nat := [4096, hd2, hdL]
abbrev hdB : List Nat := [0, 1, 24, 25, 26, 7, 8, 9, 5, 6, 10]
theorem hr11 (st : Bool → StA → Dr × Bool) (v g : Value) (n i tk mo : Int) (d : Dr) (b : Bool) (u : V3) (x : Value) : opsRun Try.prog (callN Try.prog { gam := hdG st } 1 (Bool × St)) (isSum (hdG st)) 103 o11 (o11.toList.drop 3) { hdS10 v g n i tk mo d b with tmps := (((hdS10 v g n i tk mo d b).tmps.set 28 (.val (.int .i64 i))).set 29 (.val x)).set 30 (.val (Cod.enc u)) } [] (endOps hdK (others 103 hdB)) =
    some (true, hdJ v g n i tk mo d u []) := by kernel_rfl
theorem hr12 (st : Bool → StA → Dr × Bool) (v g : Value) (n i tk mo : Int) (d : Dr) (u : V3) : hdRun st h12 (hdJ v g n i tk mo d u []) hdK (11 :: hdB) = some (.normal, hdJ v g n i tk mo d u [(11, .int .i64 1000)]) := by kernel_rfl
theorem hr13 (st : Bool → StA → Dr × Bool) (v : Value) (a : Option Addr) (gn gc : Nat) (n i tk mo : Int) (d : Dr) (u : V3) : hdRun st h13 (hdJ v (.slice a gn gc) n i tk mo d u [(11, .int .i64 1000)]) hdK (11 :: 34 :: hdB) = some (.normal, hdJ v (.slice a gn gc) n i tk mo d u [(11, .int .i64 1000), (34, .bool (decide (i < gn)))]) := by kernel_rfl
theorem hr15 (st : Bool → StA → Dr × Bool) (v g : Value) (n i tk mo : Int) (d : Dr) (u : V3) (gp : Int) : hdRun st h15 (hdJ v g n i tk mo d u [(11, .int .i64 gp)]) hdK (11 :: hdB) = some (.normal, hdJ v g n i (IntKind.i64.wrap (tk + gp)) mo d u [(11, .int .i64 gp)]) := by kernel_rfl
theorem hr16 (st : Bool → StA → Dr × Bool) (v g : Value) (n i tk mo : Int) (d : Dr) (u : V3) (gp : Int) : hdRun st h16 (hdJ v g n i tk mo d u [(11, .int .i64 gp)]) hdK (11 :: 44 :: 45 :: hdB) = some (.normal, hdJ v g n i tk mo d u [(11, .int .i64 gp), (44, Cod.enc u), (45, .int .i64 0)]) := by kernel_rfl
/-- At the head of the loop over the field's parts. -/
def hdU (v g : Value) (n i tk mo : Int) (d : Dr) (u : V3) (gp k : Int) (xs : List (Nat × Value)) : St := hdJ v g n i tk mo d u ([(11, .int .i64 gp), (44, Cod.enc u), (45, .int .i64 k)] ++ xs)
abbrev hdC : List Nat := 11 :: 44 :: 45 :: hdB
theorem hr17 (st : Bool → StA → Dr × Bool) (v g : Value) (n i tk mo : Int) (d : Dr) (u : V3) (gp k : Int) : hdRun st h17 (hdU v g n i tk mo d u gp k []) hdK (46 :: hdC) = some (.normal, hdU v g n i tk mo d u gp k [(46, .bool (decide (k < 3)))]) := by kernel_rfl
theorem hr24 (st : Bool → StA → Dr × Bool) (v g : Value) (n i tk mo : Int) (d : Dr) (u : V3) (gp k : Int) : hdRun st h24 (hdU v g n i tk mo d u gp k []) hdK hdC = some (.normal, hdU v g n i tk mo d u gp (IntKind.i64.wrap (k + 1)) []) := by kernel_rfl
theorem hr18_0 (st : Bool → StA → Dr × Bool) (v g : Value) (n i tk mo : Int) (d : Dr) (u : V3) (gp : Int) : hdRun st h18 (hdU v g n i tk mo d u gp 0 []) hdK (12 :: 13 :: hdC) = some (.normal, hdU v g n i tk mo d u gp 0 [(12, .int .i64 0), (13, .int .i64 u.x)]) := by kernel_rfl
theorem hr18_1 (st : Bool → StA → Dr × Bool) (v g : Value) (n i tk mo : Int) (d : Dr) (u : V3) (gp : Int) : hdRun st h18 (hdU v g n i tk mo d u gp 1 []) hdK (12 :: 13 :: hdC) = some (.normal, hdU v g n i tk mo d u gp 1 [(12, .int .i64 1), (13, .int .i64 u.y)]) := by kernel_rfl
theorem hr18_2 (st : Bool → StA → Dr × Bool) (v g : Value) (n i tk mo : Int) (d : Dr) (u : V3) (gp : Int) : hdRun st h18 (hdU v g n i tk mo d u gp 2 []) hdK (12 :: 13 :: hdC) = some (.normal, hdU v g n i tk mo d u gp 2 [(12, .int .i64 2), (13, .int .i64 u.z)]) := by kernel_rfl
def hdX (k m : Int) : List (Nat × Value) := [(12, .int .i64 k), (13, .int .i64 m)]
theorem hr19 (st : Bool → StA → Dr × Bool) (v g : Value) (n i tk mo : Int) (d : Dr) (u : V3) (gp k m : Int) : hdRun st h19 (hdU v g n i tk mo d u gp k (hdX k m)) hdK (4 :: 12 :: 13 :: hdC) =
    bif decide (m > 219902325555200) then some (.ret, hdU v g n i tk mo d u gp k (hdX k m ++ [(4, .bool true)])) else bif decide (m < -219902325555200) then some (.ret, hdU v g n i tk mo d u gp k (hdX k m ++ [(4, .bool true)])) else some (.normal, hdU v g n i tk mo d u gp k (hdX k m)) := by kernel_rfl
theorem hr21 (st : Bool → StA → Dr × Bool) (v g : Value) (n i tk mo : Int) (d : Dr) (u : V3) (gp k m : Int) : hdRun st h21 (hdU v g n i tk mo d u gp k (hdX k m)) hdK (56 :: 12 :: 13 :: hdC) = some (.normal, hdU v g n i tk mo d u gp k (hdX k m ++ [(56, .bool (decide (i > 0)))])) := by kernel_rfl
def max2 (a b : Int) : Int := if b > a then b else a
theorem hr23 (st : Bool → StA → Dr × Bool) (v g : Value) (n i tk mo : Int) (d : Dr) (u : V3) (gp k c : Int) : hdRun st h23 (hdU v g n i tk mo d u gp k [(14, .int .i64 c)]) hdK hdC = some (.normal, hdU v g n i tk (max2 (max2 mo (IntKind.i64.wrap (c + 4096))) (IntKind.i64.wrap (IntKind.i64.wrap (0 - c) + 4096))) d u gp k []) := by kernel_rfl
def gapV (c : Int) : Int := if 10000 < (if 10 > c then 10 else c) then 10000 else if 10 > c then 10 else c
theorem hr14 (st : Bool → StA → Dr × Bool) (v g : Value) (n i tk mo : Int) (d : Dr) (u : V3) (c : Int) (x y z : Value) : opsRun Try.prog (callN Try.prog { gam := hdG st } 1 (Bool × St)) (isSum (hdG st)) 103 o14 (o14.toList.drop 4) { hdJ v g n i tk mo d u [(11, .int .i64 1000), (34, .bool true)] with tmps := ((((hdJ v g n i tk mo d u [(11, .int .i64 1000), (34, .bool true)]).tmps.set 35 (.val x)).set 36 (.val y)).set 37 (.val z)).set 38 (.val (.int .i64 c)) } [] (endOps hdK (others 103 (11 :: hdB))) =
    some (true, hdJ v g n i tk mo d u [(11, .int .i64 (gapV c))]) := by kernel_rfl
def chgV (m pr gp : Int) : Int := IntKind.i64.wrap (IntKind.i64.wrap ((IntKind.i64.wrap (m - pr)).tdiv gp) * 1000)
theorem hr22 (st : Bool → StA → Dr × Bool) (v g : Value) (n i tk mo : Int) (d : Dr) (u : V3) (gp k m pr : Int) (x1 x2 x3 x4 x5 x6 : Value) : opsRun Try.prog (callN Try.prog { gam := hdG st } 1 (Bool × St)) (isSum (hdG st)) 103 o22 (o22.toList.drop 8) { hdU v g n i tk mo d u gp k (hdX k m ++ [(56, .bool true)]) with tmps := (((((((((hdU v g n i tk mo d u gp k (hdX k m ++ [(56, .bool true)])).tmps.set 57 (.val (.int .i64 m))).set 58 (.val x1)).set 59 (.val x2)).set 60 (.val x3)).set 61 (.val x4)).set 62 (.val x5)).set 63 (.val x6)).set 64 (.val (.int .i64 pr))) } [] (endOps hdK (others 103 (14 :: hdC))) =
    bif gp == 0 then none else some (true, hdU v g n i tk mo d u gp k [(14, .int .i64 (chgV m pr gp))]) := by kernel_rfl
/-- Behind the round. -/
def hdSf (f : Bool) (v g : Value) (n i tk mo : Int) (d : Dr) : St := mkSt 103 [0, 1, 24, 25, 26, 7, 8] [v, g, v, .int .i64 n, .int .i64 i, .int .i64 tk, .int .i64 mo] hdFx hdRx (.bool f :: drCs d) (hdL + hdT) hdH hdT
theorem hrW (st : Bool → StA → Dr × Bool) (v g : Value) (n i tk mo : Int) (d : Dr) (u : V3) (gp : Int) : hdRun st hW (hdU v g n i tk mo d u gp 3 []) [4096, hd2] [0, 1, 24, 25, 26, 7, 8, 5, 6] =
    bif stepPre (d, u, tk, ()) then
      let r := st false (d, u, tk, ())
      let R : Option (Ex × St) := some (.ret, hdSf r.2 v g n i tk mo r.1)
      bif decide (r.1.rate.x > mo) then R else bif decide (r.1.rate.x < IntKind.i64.wrap (0 - mo)) then R else
      bif decide (r.1.rate.y > mo) then R else bif decide (r.1.rate.y < IntKind.i64.wrap (0 - mo)) then R else
      bif decide (r.1.rate.z > mo) then R else bif decide (r.1.rate.z < IntKind.i64.wrap (0 - mo)) then R else some (.normal, hdSf r.2 v g n i tk mo r.1)
    else none := by kernel_rfl
theorem hr32 (st : Bool → StA → Dr × Bool) (v g : Value) (n i tk mo : Int) (d : Dr) : hdRun st h32 (hdS v g n i tk mo d) [4096, hd2] [0, 1, 24, 25, 26, 7, 8, 5, 6] = some (.normal, hdS v g n (IntKind.i64.wrap (i + 1)) tk mo d) := by kernel_rfl
theorem hrE (st : Bool → StA → Dr × Bool) (v g : Value) (n i tk mo : Int) (d : Dr) : hdRun st hE (hdS v g n i tk mo d) [] [4] = some (.ret, { hdE (.bool true) with lo := hdL }) := by kernel_rfl
end Go.Ab
