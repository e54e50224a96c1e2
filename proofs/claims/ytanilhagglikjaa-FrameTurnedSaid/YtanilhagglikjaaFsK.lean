/- A part of the proof of 'FrameTurned': lemmas, no statement of their own; no condition. -/
import Derived.Test.YtanilhagglikjaaFsG
import Derived.Test.YtanilhagglikjaaFrTwo
/- FrameTurned: its pieces. -/
namespace Go.Ab
open Go Go.Proofs
noncomputable def dC : Code := Try.f8.body.getD .skip
noncomputable def dc0 : Code := seqL dC
noncomputable def dc1 : Code := seqL (seqR dC)
noncomputable def dc3 : Code := seqL (seqR (seqR dC))
noncomputable def dT : Code := seqR (seqR (seqR dC))
noncomputable def dc4 : Code := seqL dT
noncomputable def dO6 : Array Oper := regO (seqL (seqR dT))
noncomputable def dO7 : Array Oper := regO (seqL (seqR (seqR dT)))
noncomputable def dO8 : Array Oper := regO (seqL (seqR (seqR (seqR dT))))
noncomputable def dc9 : Code := seqR (seqR (seqR (seqR dT)))
theorem dC_is : Try.f8.body = some (.seq dc0 (.seq dc1 (.seq dc3 (.seq dc4 (.seq (.region 6 dO6 false) (.seq (.region 7 dO7 false) (.seq (.region 8 dO8 false) dc9))))))) := by kernel_rfl
def dS (k : Int) (s : ByteArray) (i b : Int) : St := mkSt 51 [1, 2] [.int .i64 i, .int .u8 b] [(3, 4096, 0)] [(4096, 26, 2)] [.int .i64 k, .string s] fr2 frH frT
def dV (i b : Int) (l : List (Nat × Value)) : St := mkSt 51 ([1, 2] ++ l.map (·.1)) ([.int .i64 i, .int .u8 b] ++ l.map (·.2)) [] [] [] fr2 frH frT
def dE (b : Bool) : St := mkSt 51 [6] [.bool b] [] [] [] fr2 frH frT
def dG (aw : Unit → Bool) (wr : Fr × Unit → Two ByteArray Bool) (po : ByteArray × Unit → Bool) (op : ByteArray × Unit → Two Fr Bool) : Gam := [(11, S0w (fun _ => true) aw), (12, S0w (fun _ => true) wr), (14, S0w po op)]
noncomputable abbrev frOpsG (G : Gam) (N : Nat) (ops : Array Oper) (l : List Oper) (s : St) (keep ts : List Nat) : Option (Bool × St) := opsRun Try.prog (callN Try.prog { gam := G } 1 (Bool × St)) (isSum G) N ops l s [] (endOps keep (others N ts))
section
variable (aw : Unit → Bool) (wr : Fr × Unit → Two ByteArray Bool) (po : ByteArray × Unit → Bool) (op : ByteArray × Unit → Two Fr Bool) (s z : ByteArray) (a : Option Addr) (n c : Nat) (k i b j : Int) (x : Fr) (ok : Bool) (u v w : Value)
theorem dr0 : frRun (dG aw wr po op) 51 dc0 ⟨[Value.agg #[.int .i64 k, .string s], .int .i64 i, .int .u8 b].map .val ++ List.replicate (51 - [Value.agg #[.int .i64 k, .string s], .int .i64 i, .int .u8 b].length) (.val undef), [], 4096, frH, frT, []⟩ [4096] [1, 2, 3] = some (.normal, dS k s i b) := by kernel_rfl
theorem dr1 : frRun (dG aw wr po op) 51 dc1 (dS k s i b) [4096] [1, 2, 3] = bif !aw () then some (.ret, { dS k s i b with lo := fr2 }) else some (.normal, { dS k s i b with tmps := (dS k s i b).tmps }) := by kernel_rfl
theorem dr3 : frRun (dG aw wr po op) 51 dc3 (dS k s i b) [] [1, 2, 7, 8] = some (.normal, dV i b [(7, .string (wr (⟨k, s⟩, ())).a), (8, .bool (wr (⟨k, s⟩, ())).b)]) := by kernel_rfl
theorem dr4 : frRun (dG aw wr po op) 51 dc4 (dV i b [(7, .string z), (8, .bool ok)]) [] [1, 2, 6, 7] = bif !ok then some (.ret, dV i b [(6, .bool true), (7, .string z)]) else bif bif false then true else b == 0 then some (.ret, dV i b [(6, .bool true), (7, .string z)]) else some (.normal, dV i b [(7, .string z)]) := by kernel_rfl
theorem dr6 : frOps 51 dO6 (dO6.toList.drop 2) { dV i b [(7, .string z)] with tmps := ((dV i b [(7, .string z)]).tmps.set 25 (.val (.string z))).set 26 (.val (.slice a n c)) } [] [1, 2, 9] = some (true, dV i b [(9, .slice a n c)]) := by kernel_rfl
def idxA (i n : Int) : Int := (IntKind.i64.wrap (i.tmod n + n)).tmod n
theorem dr7 : frOps 51 dO7 (dO7.toList.take 11) (dV i b [(9, .slice a n c)]) [] [1, 2, 9, 27, 37] = bif (n : Int) == 0 then none else bif (n : Int) == 0 then none else some (true, dV i b [(9, .slice a n c), (27, .slice a n c), (37, .int .i64 (idxA i n))]) := by kernel_rfl

theorem dr7b (m : Int) : frOps 51 dO7 ((dO7.toList.drop 13).take 2) { dV i b [(9, .slice a n c), (27, .slice a n c), (37, .int .i64 j)] with tmps := ((dV i b [(9, .slice a n c), (27, .slice a n c), (37, .int .i64 j)]).tmps.set 38 (.val u)).set 39 (.val (.int .u8 m)) } [] [1, 2, 9, 27, 37, 41] = some (true, dV i b [(9, .slice a n c), (27, .slice a n c), (37, .int .i64 j), (41, .int .u8 (xorV .u8 m b))]) := by kernel_rfl
theorem dr8 : frOpsG (dG aw wr po op) 51 dO8 (dO8.toList.drop 2) { dV i b [(9, .slice a n c)] with tmps := ((dV i b [(9, .slice a n c)]).tmps.set 44 (.val u)).set 45 (.val (.string z)) } [] [1, 2, 11] = bif po (z, ()) then some (true, { dV i b [(11, .bool (op (z, ())).b)] with lo := 3064991081731777716716694054300618367237478244367208448 }) else none := by kernel_rfl
theorem dr9 : frRun (dG aw wr po op) 51 dc9 { dV i b [(11, .bool ok)] with lo := 3064991081731777716716694054300618367237478244367208448 } [] [6] = some (.ret, { dE (!ok) with lo := 3064991081731777716716694054300618367237478244367208448 }) := by kernel_rfl
theorem od0 : okNamed (dS k s i b) = true := by kernel_rfl
theorem od3 : okNamed (dV i b [(7, .string z), (8, .bool ok)]) = true := by kernel_rfl
theorem od6 : okNamed (dV i b [(6, .bool true), (7, .string z)]) = true := by kernel_rfl
theorem od7 : okNamed (dV i b [(7, .string z)]) = true := by kernel_rfl
theorem od9 : okNamed (dV i b [(9, .slice a n c)]) = true := by kernel_rfl
theorem od37 : okNamed (dV i b [(9, .slice a n c), (27, .slice a n c), (37, .int .i64 j)]) = true := by kernel_rfl
theorem od41 : okNamed (dV i b [(9, .slice a n c), (27, .slice a n c), (37, .int .i64 j), (41, .int .u8 k)]) = true := by kernel_rfl
theorem od11 : okNamed { dV i b [(11, .bool ok)] with lo := 3064991081731777716716694054300618367237478244367208448 } = true := by kernel_rfl
theorem odE : okNamed { dE ok with lo := 3064991081731777716716694054300618367237478244367208448 } = true := by kernel_rfl
theorem ld7 : (dV i b [(7, .string z)]).tmps.length = 51 := by kernel_rfl
theorem ld9 : (dV i b [(9, .slice a n c)]).tmps.length = 51 := by kernel_rfl
theorem ld37 : (dV i b [(9, .slice a n c), (27, .slice a n c), (37, .int .i64 j)]).tmps.length = 51 := by kernel_rfl
theorem ld41 : (dV i b [(9, .slice a n c), (27, .slice a n c), (37, .int .i64 j), (41, .int .u8 k)]).tmps.length = 51 := by kernel_rfl
theorem wd41 : dropSt [] (others 51 [1, 2, 9]) { dV i b [(9, .slice a n c), (27, .slice a n c), (37, .int .i64 j), (41, .int .u8 k)] with tmps := (dV i b [(9, .slice a n c), (27, .slice a n c), (37, .int .i64 j), (41, .int .u8 k)]).tmps.set 42 (.val u) } = dV i b [(9, .slice a n c)] := by kernel_rfl
theorem dR6 : resA Try.prog (dV i b [(6, .bool true), (7, .string z)]) Try.f8.results.toList = some [.val (.bool true)] := by kernel_rfl
theorem dRE : resA Try.prog { dE ok with lo := 3064991081731777716716694054300618367237478244367208448 } Try.f8.results.toList = some [.val (.bool ok)] := by kernel_rfl
end
theorem dg6_0 : sigOf dO6 0 = some (.move (.tmp 7), some 25, true) := by kernel_rfl
theorem dg6_1 : sigOf dO6 1 = some (.convert 9 38 (.tmp 25), some 26, true) := by kernel_rfl
theorem dg7_11 : sigOf dO7 11 = some (.indexAddr 38 (.tmp 27) (.tmp 37), some 38, true) := by kernel_rfl
theorem dg7_12 : sigOf dO7 12 = some (.load 5 (.tmp 38), some 39, true) := by kernel_rfl
theorem dg7_15 : sigOf dO7 15 = some (.indexAddr 38 (.tmp 27) (.tmp 37), some 42, true) := by kernel_rfl
theorem dg7_16 : sigOf dO7 16 = some (.store 5 (.tmp 42) (.tmp 41), none, true) := by kernel_rfl
theorem dg8_0 : sigOf dO8 0 = some (.move (.tmp 9), some 44, true) := by kernel_rfl
theorem dg8_1 : sigOf dO8 1 = some (.convert 38 9 (.tmp 44), some 45, true) := by kernel_rfl
theorem dn6 : List.range dO6.size = 0 :: 1 :: ((List.range (dO6.toList.drop 2).length).map (2 + ·) ++ []) := by kernel_rfl
theorem dn7 : List.range dO7.size = (List.range (dO7.toList.take 11).length).map (0 + ·) ++ (11 :: 12 :: ((List.range ((dO7.toList.drop 13).take 2).length).map (13 + ·) ++ (15 :: 16 :: []))) := by kernel_rfl
theorem dn8 : List.range dO8.size = 0 :: 1 :: ((List.range (dO8.toList.drop 2).length).map (2 + ·) ++ []) := by kernel_rfl
theorem f8_is : Try.prog.funcs[8]? = some Try.f8 := by kernel_rfl
end Go.Ab
