/- A part of the proof of 'FrameCut': lemmas, no statement of their own; no condition. -/
import Derived.Test.YtanilhagglikjaaFsG
import Derived.Test.YtanilhagglikjaaFrTwo
import Derived.Laws.OwnMore
/- FrameCut. -/
namespace Go.Ab
open Go Go.Proofs
noncomputable def cC : Code := Try.f7.body.getD .skip
noncomputable def cc0 : Code := seqL cC
noncomputable def cc1 : Code := seqL (seqR cC)
noncomputable def cc3 : Code := seqL (seqR (seqR cC))
noncomputable def cT : Code := seqR (seqR (seqR cC))
noncomputable def cO5 : Array Oper := regO (seqL cT)
noncomputable def cO6 : Array Oper := regO (seqL (seqR cT))
noncomputable def cO7 : Array Oper := regO (seqL (seqR (seqR cT)))
noncomputable def cO8 : Array Oper := regO (seqL (seqR (seqR (seqR cT))))
theorem cC_is : Try.f7.body = some (.seq cc0 (.seq cc1 (.seq cc3 (.seq (.region 5 cO5 false) (.seq (.region 6 cO6 false) (.seq (.region 7 cO7 false) (.seq (.region 8 cO8 false) .ret))))))) := by kernel_rfl
def cS (s : ByteArray) (k : Int) (l : List (Nat × Value)) : St := mkSt 70 ([0, 1] ++ l.map (·.1)) ([.string s, .int .i64 k] ++ l.map (·.2)) [] [] [] 4096 frH frT
def cE (b : Bool) : St := mkSt 70 [4] [.bool b] [] [] [] 4096 frH frT
section
variable (aw : Unit → Bool) (s z y x t : ByteArray) (w55 : Value) (ua va xa : Option Addr) (un uc vn vc xn xc : Nat) (k o p q : Int) (b : Bool)
theorem cr0 : frRun (kG aw) 70 cc0 ⟨[Value.string s, .int .i64 k].map .val ++ List.replicate (70 - [Value.string s, .int .i64 k].length) (.val undef), [], 4096, frH, frT, []⟩ [] [0, 1] = some (.normal, cS s k []) := by kernel_rfl
theorem cr1 : frRun (kG aw) 70 cc1 (cS s k []) [] [0, 1] = bif !aw () then some (.ret, { cS s k [] with lo := 4096 }) else some (.normal, { cS s k [] with tmps := (cS s k []).tmps }) := by kernel_rfl
theorem cr3 : frRun (kG aw) 70 cc3 (cS s k []) [] [0, 1, 4] = bif decide ((s.size : Int) > 3000) then some (.ret, cS s k [(4, .bool true)]) else
    bif bif false then true else decide (k < 0) then some (.ret, cS s k [(4, .bool true)]) else bif bif false then true else decide (k > (s.size : Int)) then some (.ret, cS s k [(4, .bool true)]) else some (.normal, { cS s k [] with tmps := (cS s k []).tmps }) := by kernel_rfl
theorem cr5 : frOps 70 cO5 (cO5.toList.take 1) (cS s k []) [] [0, 1, 30] = some (true, cS s k [(30, .string s)]) := by kernel_rfl
theorem cr5b : frOps 70 cO5 (cO5.toList.drop 2) { cS s k [(30, .string s)] with tmps := (cS s k [(30, .string s)]).tmps.set 31 (.val (tup3 (.slice ua un uc) z o)) } [] [0, 1, 5, 6, 7] = some (true, cS s k [(5, .slice ua un uc), (6, .string z), (7, .int .i64 o)]) := by kernel_rfl
def c6L (u : Value) (z : ByteArray) (o : Int) : List (Nat × Value) := [(5, u), (6, .string z), (7, .int .i64 o)]
theorem cr6 : frOps 70 cO6 (cO6.toList.take 3) (cS s k (c6L (.slice ua un uc) z o)) [] [0, 1, 5, 6, 7, 38] = bif decide (0 ≤ ((0 : Nat) : Int) ∧ ((0 : Nat) : Int) ≤ k ∧ k ≤ (s.size : Int)) then some (true, cS s k (c6L (.slice ua un uc) z o ++ [(38, .string (s.extract ((0 : Nat) : Int).toNat k.toNat))])) else none := by kernel_rfl
theorem cr6b : frOps 70 cO6 (cO6.toList.drop 4) { cS s k (c6L (.slice ua un uc) z o ++ [(38, .string x)]) with tmps := (cS s k (c6L (.slice ua un uc) z o ++ [(38, .string x)])).tmps.set 39 (.val (tup3 (.slice va vn vc) y p)) } [] [0, 1, 5, 6, 7, 8, 9, 10] = some (true, cS s k (c6L (.slice ua un uc) z o ++ [(8, .slice va vn vc), (9, .string y), (10, .int .i64 p)])) := by kernel_rfl
def c7L (u v : Value) (z y : ByteArray) (o p : Int) : List (Nat × Value) := c6L u z o ++ [(8, v), (9, .string y), (10, .int .i64 p)]
theorem cr7 : frOps 70 cO7 (cO7.toList.take 5) (cS s k (c7L (.slice ua un uc) (.slice va vn vc) z y o p)) [] [0, 1, 5, 6, 7, 8, 9, 10, 48] =
    bif decide (0 ≤ k ∧ k ≤ (s.size : Int) ∧ (s.size : Int) ≤ (s.size : Int)) then bif decide (((y.size + (s.extract k.toNat ((s.size : Nat) : Int).toNat).size : Nat) : Int) > 9223372036854775807) then none else some (true, cS s k (c7L (.slice ua un uc) (.slice va vn vc) z y o p ++ [(48, .string (y ++ s.extract k.toNat ((s.size : Nat) : Int).toNat))])) else none := by kernel_rfl
def c8L (u v r : Value) (z y : ByteArray) (o p q : Int) : List (Nat × Value) := [(5, u), (6, .string z), (7, .int .i64 o), (8, v), (10, .int .i64 p), (11, r), (12, .string y), (13, .int .i64 q)]
theorem cr7b : frOps 70 cO7 (cO7.toList.drop 6) { cS s k (c7L (.slice ua un uc) (.slice va vn vc) z y o p ++ [(48, .string x)]) with tmps := (cS s k (c7L (.slice ua un uc) (.slice va vn vc) z y o p ++ [(48, .string x)])).tmps.set 49 (.val (tup3 (.slice xa xn xc) t q)) } [] [0, 1, 5, 6, 7, 8, 10, 11, 12, 13] =
    some (true, cS s k (c8L (.slice ua un uc) (.slice va vn vc) (.slice xa xn xc) z t o p q)) := by kernel_rfl
def c9L (u v r : Value) (z y : ByteArray) (o p q : Int) : List (Nat × Value) := [(6, .string z), (7, .int .i64 o), (10, .int .i64 p), (12, .string y), (13, .int .i64 q), (53, v), (54, r), (5, u)]
theorem cr8 : frOps 70 cO8 (cO8.toList.take 2) (cS s k (c8L (.slice ua un uc) (.slice va vn vc) (.slice xa xn xc) z y o p q)) [] [0, 1, 6, 7, 10, 12, 13, 53, 54, 5] = some (true, cS s k (c9L (.slice ua un uc) (.slice va vn vc) (.slice xa xn xc) z y o p q)) := by kernel_rfl
theorem cr8c : frOps 70 cO8 (cO8.toList.drop 5) { cS s k (c9L (.slice ua un uc) (.slice va vn vc) (.slice xa xn xc) z y o p q) with tmps := (((cS s k (c9L (.slice ua un uc) (.slice va vn vc) (.slice xa xn xc) z y o p q)).tmps.set 55 (.val w55)).set 56 (.val (.slice ua un uc))).set 57 (.val (.bool true)) } [] [4] =
    bif y.toList == z.toList then some (true, cE (IntKind.i64.wrap (p + q) == o)) else some (true, cE false) := by kernel_rfl
theorem oc0 : okNamed (cS s k []) = true := by kernel_rfl
theorem oc4 : okNamed (cS s k [(4, .bool true)]) = true := by kernel_rfl
theorem oc30 : okNamed (cS s k [(30, .string s)]) = true := by kernel_rfl
theorem oc6 : okNamed (cS s k (c6L (.slice ua un uc) z o)) = true := by kernel_rfl
theorem oc38 : okNamed (cS s k (c6L (.slice ua un uc) z o ++ [(38, .string x)])) = true := by kernel_rfl
theorem oc7 : okNamed (cS s k (c7L (.slice ua un uc) (.slice va vn vc) z y o p)) = true := by kernel_rfl
theorem oc48 : okNamed (cS s k (c7L (.slice ua un uc) (.slice va vn vc) z y o p ++ [(48, .string x)])) = true := by kernel_rfl
theorem oc8 : okNamed (cS s k (c8L (.slice ua un uc) (.slice va vn vc) (.slice xa xn xc) z y o p q)) = true := by kernel_rfl
theorem oc9 : okNamed (cS s k (c9L (.slice ua un uc) (.slice va vn vc) (.slice xa xn xc) z y o p q)) = true := by kernel_rfl
theorem ocE : okNamed (cE b) = true := by kernel_rfl
theorem lc30 : (cS s k [(30, .string s)]).tmps.length = 70 := by kernel_rfl
theorem lc38 : (cS s k (c6L (.slice ua un uc) z o ++ [(38, .string x)])).tmps.length = 70 := by kernel_rfl
theorem lc48 : (cS s k (c7L (.slice ua un uc) (.slice va vn vc) z y o p ++ [(48, .string x)])).tmps.length = 70 := by kernel_rfl
theorem lc9 : (cS s k (c9L (.slice ua un uc) (.slice va vn vc) (.slice xa xn xc) z y o p q)).tmps.length = 70 := by kernel_rfl
theorem cR4 : resA Try.prog (cS s k [(4, .bool true)]) Try.f7.results.toList = some [.val (.bool true)] := by kernel_rfl
theorem cRE : resA Try.prog (cE b) Try.f7.results.toList = some [.val (.bool b)] := by kernel_rfl
end
def cC5 : Call := { callee := .value (.func 16), args := #[.tmp 30], argTypes := #[9] }
def cC6 : Call := { callee := .value (.func 16), args := #[.tmp 38], argTypes := #[9] }
def cC7 : Call := { callee := .value (.func 16), args := #[.tmp 48], argTypes := #[9] }
def cC8 : Call := { callee := .value (.func 18), args := #[.tmp 55, .tmp 56], argTypes := #[33, 33] }
theorem cg5 : sigOf cO5 1 = some (.call cC5, some 31, true) := by kernel_rfl
theorem cg6 : sigOf cO6 3 = some (.call cC6, some 39, true) := by kernel_rfl
theorem cg7 : sigOf cO7 5 = some (.call cC7, some 49, true) := by kernel_rfl
theorem cg8a : sigOf cO8 2 = some (.call { callee := .builtin .append, args := #[.tmp 53, .tmp 54], argTypes := #[33, 33] }, some 55, true) := by kernel_rfl
theorem cg8b : sigOf cO8 3 = some (.move (.tmp 5), some 56, true) := by kernel_rfl
theorem cg8c : sigOf cO8 4 = some (.call cC8, some 57, true) := by kernel_rfl
theorem cn5 : List.range cO5.size = (List.range (cO5.toList.take 1).length).map (0 + ·) ++ (1 :: ((List.range (cO5.toList.drop 2).length).map (2 + ·) ++ [])) := by kernel_rfl
theorem cn6 : List.range cO6.size = (List.range (cO6.toList.take 3).length).map (0 + ·) ++ (3 :: ((List.range (cO6.toList.drop 4).length).map (4 + ·) ++ [])) := by kernel_rfl
theorem cn7 : List.range cO7.size = (List.range (cO7.toList.take 5).length).map (0 + ·) ++ (5 :: ((List.range (cO7.toList.drop 6).length).map (6 + ·) ++ [])) := by kernel_rfl
theorem cn8 : List.range cO8.size = (List.range (cO8.toList.take 2).length).map (0 + ·) ++ (2 :: 3 :: 4 :: ((List.range (cO8.toList.drop 5).length).map (5 + ·) ++ [])) := by kernel_rfl
theorem f7_is : Try.prog.funcs[7]? = some Try.f7 := by kernel_rfl
end Go.Ab
