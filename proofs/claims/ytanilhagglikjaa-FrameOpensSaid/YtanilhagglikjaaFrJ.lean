/- A part of the proof of 'FrameOpens': lemmas, no statement of their own; no condition. -/
import Derived.Test.YtanilhagglikjaaFrI
/- frame.Wrap: its pieces. -/
namespace Go.Ab
open Go Go.Proofs
theorem Stand.resultsV {P : Program} {fn : Func} {F : Nat → Prop} {w0 : World} {N : Nat} {s : St} {a : Act} {w : World} (h : Stand F w0 N s a w) {ls : List AV} {v : Value} (hr : resA P s fn.results.toList = some ls) (hp : pack ls = .val v) :
    (Go.results fn a.tmps).run P w = .ok v w ∧ a.defers = [] ∧ Keep F w0 w := by
  obtain ⟨σ, h1, h2, _⟩ := h
  obtain ⟨x, h3, h4, h5⟩ := h1.results hr
  rw [hp] at h4
  simp only [Rel] at h4
  subst h4
  exact ⟨h3, h5, h2⟩
noncomputable def wC : Code := Try.f12.body.getD .skip
noncomputable def wp0 : Code := seqL wC
noncomputable def wp1 : Code := seqL (seqR wC)
noncomputable def wT : Code := seqR (seqR wC)
noncomputable def wO3 : Array Oper := regO (seqL wT)
noncomputable def wO4 : Array Oper := regO (seqL (seqR wT))
noncomputable def wO5 : Array Oper := regO (seqL (seqR (seqR wT)))
theorem wC_is : Try.f12.body = some (.seq wp0 (.seq wp1 (.seq (.region 3 wO3 false) (.seq (.region 4 wO4 false) (.seq (.region 5 wO5 false) .ret))))) := by kernel_rfl
def wS (k : Int) (s : ByteArray) (sl : List (Nat × Value)) : St := mkSt 44 (sl.map (·.1)) (sl.map (·.2)) [(1, 4096, 0)] [(4096, 26, 2)] [.int .i64 k, .string s] fr2 frH frT
def wE (l : List (Nat × Value)) : St := mkSt 44 (l.map (·.1)) (l.map (·.2)) [] [] [] fr2 frH frT
theorem wq0 (k : Int) (s : ByteArray) : frRun [] 44 wp0 ⟨[Value.agg #[.int .i64 k, .string s]].map .val ++ List.replicate (44 - [Value.agg #[.int .i64 k, .string s]].length) (.val undef), [], 4096, frH, frT, []⟩ [4096] [1] = some (.normal, wS k s []) := by kernel_rfl
theorem wq1 (k : Int) (s : ByteArray) : frRun [] 44 wp1 (wS k s []) [4096] [1, 2, 3] =
    bif decide (k < 0) then some (.ret, wS k s [(2, .string ⟨#[]⟩), (3, .bool false)]) else bif bif false then true else decide (k > 255) then some (.ret, wS k s [(2, .string ⟨#[]⟩), (3, .bool false)]) else
      bif bif false then true else decide ((s.size : Int) > 64) then some (.ret, wS k s [(2, .string ⟨#[]⟩), (3, .bool false)]) else some (.normal, { wS k s [] with tmps := (wS k s []).tmps }) := by kernel_rfl
theorem wq3 (k : Int) (s : ByteArray) : frOps 44 wO3 (wO3.toList.take 7) (wS k s []) [4096] [1, 22, 26] = some (true, wS k s [(22, .int .u8 (IntKind.u8.wrap k)), (26, .int .u8 (IntKind.u8.wrap s.size))]) := by kernel_rfl
theorem wq3b (k x y : Int) (s : ByteArray) (v : Value) : frOps 44 wO3 ((wO3.toList.drop 8).take 2) { wS k s [(22, .int .u8 x), (26, .int .u8 y)] with tmps := (wS k s [(22, .int .u8 x), (26, .int .u8 y)]).tmps.set 27 (.val v) } [4096] [1, 27, 29] = some (true, wS k s [(27, v), (29, .string s)]) := by kernel_rfl
theorem wq3c (k : Int) (s : ByteArray) (v : Value) (a : Option Addr) (n cap : Nat) : frOps 44 wO3 (wO3.toList.drop 11) { wS k s [(27, v), (29, .string s)] with tmps := (wS k s [(27, v), (29, .string s)]).tmps.set 30 (.val (.slice a n cap)) } [4096] [1, 4] = some (true, wS k s [(4, .slice a n cap)]) := by kernel_rfl
theorem wq4 (k : Int) (s : ByteArray) (u x y z : Value) (c : Int) : frOps 44 wO4 (wO4.toList.drop 4) { wS k s [(4, u)] with tmps := ((((wS k s [(4, u)]).tmps.set 31 (.val x)).set 32 (.val y)).set 33 (.val z)).set 34 (.val (.int .u16 c)) } [4096] [1, 4, 5] = some (true, wS k s [(4, u), (5, .int .u16 c)]) := by kernel_rfl
theorem wq5 (k c : Int) (s : ByteArray) (a : Option Addr) (n cap : Nat) : frOps 44 wO5 (wO5.toList.take 6) (wS k s [(4, .slice a n cap), (5, .int .u16 c)]) [4096] [1, 35, 38, 40] = some (true, wS k s [(35, .slice a n cap), (38, .int .u8 (IntKind.u8.wrap (c.fdiv (2 ^ 8)))), (40, .int .u8 (IntKind.u8.wrap c))]) := by kernel_rfl
theorem wq5b (k x y : Int) (s r : ByteArray) (u v z : Value) : frOps 44 wO5 (wO5.toList.drop 9) { wS k s [(35, u), (38, .int .u8 x), (40, .int .u8 y)] with tmps := (((wS k s [(35, u), (38, .int .u8 x), (40, .int .u8 y)]).tmps.set 41 (.val v)).set 42 (.val z)).set 43 (.val (.string r)) } [] [2, 3] = some (true, wE [(2, .string r), (3, .bool true)]) := by kernel_rfl
theorem wqR (r : ByteArray) (b : Bool) : resA Try.prog (wE [(2, .string r), (3, .bool b)]) Try.f12.results.toList = some [.val (.string r), .val (.bool b)] := by kernel_rfl
theorem wqR' (k : Int) (s r : ByteArray) (b : Bool) : resA Try.prog (wS k s [(2, .string r), (3, .bool b)]) Try.f12.results.toList = some [.val (.string r), .val (.bool b)] := by kernel_rfl
theorem wpk (r : ByteArray) (b : Bool) : pack [.val (.string r), .val (.bool b)] = .val (.tuple #[.string r, .bool b]) := by kernel_rfl
theorem t3_7 : sigOf wO3 7 = some (.buildSlice 38 3 #[(0, .const (.int .u8 (Int.ofNat 165))), (1, .tmp 22), (2, .tmp 26)], some 27, true) := by kernel_rfl
theorem t3_10 : sigOf wO3 10 = some (.call { callee := .builtin .append, args := #[.tmp 27, .tmp 29], argTypes := #[38, 9] }, some 30, true) := by kernel_rfl
theorem t3_n : List.range wO3.size = (List.range (wO3.toList.take 7).length).map (0 + ·) ++ (7 :: ((List.range ((wO3.toList.drop 8).take 2).length).map (8 + ·) ++ (10 :: ((List.range (wO3.toList.drop 11).length).map (11 + ·) ++ [])))) := by kernel_rfl
theorem t4_0 : sigOf wO4 0 = some (.move (.tmp 4), some 31, true) := by kernel_rfl
theorem t4_1 : sigOf wO4 1 = some (.slice 38 (.tmp 31) (some (.const (.int .i64 (Int.ofNat 1)))) none none, some 32, true) := by kernel_rfl
theorem t4_2 : sigOf wO4 2 = some (.convert 38 9 (.tmp 32), some 33, true) := by kernel_rfl
def cSum : Call := { callee := .value (.func 9), args := #[.tmp 33], argTypes := #[9] }
theorem t4_3 : sigOf wO4 3 = some (.call cSum, some 34, true) := by kernel_rfl
theorem t4_n : List.range wO4.size = 0 :: 1 :: 2 :: 3 :: ((List.range (wO4.toList.drop 4).length).map (4 + ·) ++ []) := by kernel_rfl
theorem t5_6 : sigOf wO5 6 = some (.buildSlice 38 2 #[(0, .tmp 38), (1, .tmp 40)], some 41, true) := by kernel_rfl
theorem t5_7 : sigOf wO5 7 = some (.call { callee := .builtin .append, args := #[.tmp 35, .tmp 41], argTypes := #[38, 38] }, some 42, true) := by kernel_rfl
theorem t5_8 : sigOf wO5 8 = some (.convert 38 9 (.tmp 42), some 43, true) := by kernel_rfl
theorem t5_n : List.range wO5.size = (List.range (wO5.toList.take 6).length).map (0 + ·) ++ (6 :: 7 :: 8 :: ((List.range (wO5.toList.drop 9).length).map (9 + ·) ++ [])) := by kernel_rfl
section
variable (k x y c : Int) (s r : ByteArray) (u v z : Value) (b : Bool)
theorem ow0 : okNamed (wS k s []) = true := by kernel_rfl
theorem ow1 : okNamed (wS k s [(2, .string r), (3, .bool b)]) = true := by kernel_rfl
theorem ow2 : okNamed (wS k s [(22, .int .u8 x), (26, .int .u8 y)]) = true := by kernel_rfl
theorem ow3 : okNamed (wS k s [(27, v), (29, .string s)]) = true := by kernel_rfl
theorem ow4 : okNamed (wS k s [(4, u)]) = true := by kernel_rfl
theorem ow5 : okNamed (wS k s [(4, u), (5, v)]) = true := by kernel_rfl
theorem ow6 : okNamed (wS k s [(35, u), (38, .int .u8 x), (40, .int .u8 y)]) = true := by kernel_rfl
theorem ow7 : okNamed (wE [(2, .string r), (3, .bool b)]) = true := by kernel_rfl
theorem lw0 : (wS k s []).tmps.length = 44 := by kernel_rfl
theorem lw2 : (wS k s [(22, .int .u8 x), (26, .int .u8 y)]).tmps.length = 44 := by kernel_rfl
theorem lw3 : (wS k s [(27, v), (29, .string s)]).tmps.length = 44 := by kernel_rfl
theorem lw4 : (wS k s [(4, u)]).tmps.length = 44 := by kernel_rfl
theorem lw6 : (wS k s [(35, u), (38, .int .u8 x), (40, .int .u8 y)]).tmps.length = 44 := by kernel_rfl
end
end Go.Ab
