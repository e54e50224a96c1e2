/- A part of the proof of 'FrameOpens': lemmas, no statement of their own; no condition. -/
import Derived.Test.YtanilhagglikjaaFrB
/- The sums' pieces. -/
namespace Go.Ab
open Go Go.Proofs
noncomputable def pC : Code := Try.f9.body.getD .skip
noncomputable def p0 : Code := seqL pC
noncomputable def pO1 : Array Oper := regO (seqL (seqR pC))
noncomputable def p2 : Code := seqL (seqR (seqR pC))
noncomputable def pT : Code := seqR (seqR (seqR pC))
noncomputable def pO3 : Array Oper := regO (seqL (seqL pT))
noncomputable def pE : Code := seqR pT
noncomputable def pL : Code := inB (inB (seqR (seqL pT)))
noncomputable def p4 : Code := seqL pL
noncomputable def pM : Code := inB (seqL (seqR (seqR pL)))
noncomputable def p7 : Code := seqR (seqR (seqR pL))
noncomputable def pO5 : Array Oper := regO (seqL pM)
noncomputable def pO6 : Array Oper := regO (seqR pM)
theorem pC_is : Try.f9.body = some (.seq p0 (.seq (.region 1 pO1 false) (.seq p2 (.seq (.seq (.region 3 pO3 false) (.block 0 (.loop pL))) pE)))) := by kernel_rfl
theorem pL_is : pL = .seq p4 (.seq (.cond (.tmp 12) .skip (.exit 0)) (.seq (.block 1 (.seq (.region 5 pO5 false) (.region 6 pO6 false))) p7)) := by kernel_rfl
noncomputable def gC : Code := Try.f10.body.getD .skip
noncomputable def g0 : Code := seqL gC
noncomputable def g1 : Code := seqL (seqR gC)
noncomputable def gT : Code := seqR (seqR gC)
noncomputable def g2 : Code := seqL (seqL gT)
noncomputable def gE : Code := seqR gT
noncomputable def gL : Code := inB (inB (seqR (seqL gT)))
noncomputable def g3 : Code := seqL (seqL gL)
noncomputable def gM : Code := inB (seqL (seqR gL))
noncomputable def g4 : Code := seqR (seqR gL)
noncomputable def gO5 : Array Oper := regO (seqL gM)
noncomputable def g6 : Code := seqL (seqR gM)
noncomputable def gK : Code := inB (inB (seqR (seqR gM)))
noncomputable def g7 : Code := seqL (seqL gK)
noncomputable def g9 : Code := inB (seqL (seqR gK))
noncomputable def g8 : Code := seqR (seqR gK)
theorem gC_is : Try.f10.body = some (.seq g0 (.seq g1 (.seq (.seq g2 (.block 0 (.loop gL))) gE))) := by kernel_rfl
theorem gL_is : gL = .seq (.seq g3 (.cond (.tmp 10) .skip (.exit 0))) (.seq (.block 1 (.seq (.region 5 gO5 false) (.seq g6 (.block 2 (.loop gK))))) g4) := by kernel_rfl
theorem gK_is : gK = .seq (.seq g7 (.cond (.tmp 21) .skip (.exit 2))) (.seq (.block 3 g9) g8) := by kernel_rfl
theorem f9_n : Try.f9.ntmps = 27 := by kernel_rfl
theorem f10_n : Try.f10.ntmps = 32 := by kernel_rfl
/-- frame.Sum's states. -/
def pS0 (s : ByteArray) : St := mkSt 27 [0] [.string s] [] [] [] 4096 frH frT
def pS1 (s : ByteArray) : St := mkSt 27 [0] [.string s] [(3, 4096, 0)] [(4096, 40, 256)] (u16s tabN) fr2 frH frT
def pS2 (s : ByteArray) (r : Int) : St := mkSt 27 [0, 4] [.string s, .int .u16 r] [(3, 4096, 0)] [(4096, 40, 256)] (u16s tabN) fr2 frH frT
def pS (sl : List (Nat × Value)) (v : Value) (n i r : Int) : St := mkSt 27 ([9, 10, 11, 4] ++ sl.map (·.1)) ([v, .int .i64 n, .int .i64 i, .int .u16 r] ++ sl.map (·.2)) [(3, 4096, 0)] [(4096, 40, 256)] (u16s tabN) fr2 frH frT
abbrev pB : List Nat := [9, 10, 11, 4, 3]
theorem pr0 (s : ByteArray) : frRun [] 27 p0 ⟨[Value.string s].map .val ++ List.replicate (27 - [Value.string s].length) (.val undef), [], 4096, frH, frT, []⟩ [] [0] = some (.normal, pS0 s) := by kernel_rfl
noncomputable abbrev frOps (N : Nat) (ops : Array Oper) (l : List Oper) (s : St) (keep ts : List Nat) : Option (Bool × St) := opsRun Try.prog (callN Try.prog { gam := ([] : Gam) } 1 (Bool × St)) (isSum ([] : Gam)) N ops l s [] (endOps keep (others N ts))
theorem pr1 (s : ByteArray) : frOps 27 pO1 (pO1.toList.drop 1) { pS0 s with tmps := (pS0 s).tmps.set 7 (.val (.agg (List.toArray (u16s tabN)))) } [4096] [0, 3] = some (true, pS1 s) := by kernel_rfl
theorem pr2 (s : ByteArray) : frRun [] 27 p2 (pS1 s) [4096] [0, 4, 3] = some (.normal, pS2 s 65535) := by kernel_rfl
theorem pr3 (s : ByteArray) (r : Int) (a : Option Addr) (n c : Nat) : frOps 27 pO3 (pO3.toList.drop 2) { pS2 s r with tmps := ((pS2 s r).tmps.set 8 (.val (.string s))).set 9 (.val (.slice a n c)) } [4096] pB = some (true, pS [] (.slice a n c) n 0 r) := by kernel_rfl
theorem pr4 (v : Value) (n i r : Int) : frRun [] 27 p4 (pS [] v n i r) [4096] (12 :: pB) = some (.normal, pS [(12, .bool (decide (i < n)))] v n i r) := by kernel_rfl
theorem pr5 (v x : Value) (n i r c : Int) : frOps 27 pO5 (pO5.toList.drop 2) { pS [] v n i r with tmps := ((pS [] v n i r).tmps.set 13 (.val x)).set 14 (.val (.int .u8 c)) } [4096] (6 :: pB) = some (true, pS [(6, .int .u8 c)] v n i r) := by kernel_rfl
theorem pr6 (v : Value) (n i r c : Int) : frOps 27 pO6 (pO6.toList.take 7) (pS [(6, .int .u8 c)] v n i r) [4096] (16 :: 21 :: pB) =
    some (true, pS [(16, .int .u16 (IntKind.u16.wrap (r * 2 ^ 8))), (21, .int .u8 (xorV .u8 (IntKind.u8.wrap (r.fdiv (2 ^ 8))) c))] v n i r) := by kernel_rfl
theorem pr6b (v : Value) (n i r x q : Int) (j : Nat) : frOps 27 pO6 (pO6.toList.drop 9) { pS [(16, .int .u16 x), (21, .int .u8 q)] v n i r with tmps := ((pS [(16, .int .u16 x), (21, .int .u8 q)] v n i r).tmps.set 22 (.ptr 4096 j)).set 23 (.val (.int .u16 (tabN.getD j 0 : Nat))) } [4096] pB =
    some (true, pS [] v n i (xorV .u16 x (tabN.getD j 0 : Nat))) := by kernel_rfl
theorem pr7 (v : Value) (n i r : Int) : frRun [] 27 p7 (pS [] v n i r) [4096] pB = some (.normal, pS [] v n (IntKind.i64.wrap (i + 1)) r) := by kernel_rfl
def pSE (r : Int) : St := mkSt 27 [2] [.int .u16 r] [] [] [] fr2 frH frT
theorem prE (v : Value) (n i r : Int) : frRun [] 27 pE (pS [] v n i r) [] [2] = some (.ret, pSE r) := by kernel_rfl
theorem pRes (r : Int) : resA Try.prog (pSE r) Try.f9.results.toList = some [.val (.int .u16 r)] := by kernel_rfl
/-- The document's states. -/
def gS (sl : List (Nat × Value)) (s : ByteArray) : St := mkSt 32 ([0] ++ sl.map (·.1)) ([.string s] ++ sl.map (·.2)) [] [] [] 4096 frH frT
def gV (i r : Int) : List (Nat × Value) := [(3, .int .u16 r), (4, .int .i64 i)]
def gW (i r k : Int) : List (Nat × Value) := [(3, .int .u16 r), (4, .int .i64 i), (5, .int .i64 k)]
theorem gr0 (s : ByteArray) : frRun [] 32 g0 ⟨[Value.string s].map .val ++ List.replicate (32 - [Value.string s].length) (.val undef), [], 4096, frH, frT, []⟩ [] [0] = some (.normal, gS [] s) := by kernel_rfl
theorem gr1 (s : ByteArray) : frRun [] 32 g1 (gS [] s) [] [0, 3] = some (.normal, gS [(3, .int .u16 65535)] s) := by kernel_rfl
theorem gr2 (s : ByteArray) : frRun [] 32 g2 (gS [(3, .int .u16 65535)] s) [] [0, 3, 4] = some (.normal, gS (gV 0 65535) s) := by kernel_rfl
theorem gr3 (s : ByteArray) (i r : Int) : frRun [] 32 g3 (gS (gV i r) s) [] [0, 3, 4, 10] = some (.normal, gS (gV i r ++ [(10, .bool (decide (i < s.size)))]) s) := by kernel_rfl
theorem gr5 (s : ByteArray) (i r c : Int) (x y : Value) : frOps 32 gO5 (gO5.toList.drop 4) { gS (gV i r) s with tmps := ((((gS (gV i r) s).tmps.set 13 (.val (.int .u16 r))).set 14 (.val x)).set 15 (.val y)).set 16 (.val (.int .u8 c)) } [] [0, 3, 4] =
    some (true, gS (gV i (xorV .u16 r (IntKind.u16.wrap (IntKind.u16.wrap c * 2 ^ 8)))) s) := by kernel_rfl
theorem gr6 (s : ByteArray) (i r : Int) : frRun [] 32 g6 (gS (gV i r) s) [] [0, 3, 4, 5] = some (.normal, gS (gW i r 0) s) := by kernel_rfl
theorem gr7 (s : ByteArray) (i r k : Int) : frRun [] 32 g7 (gS (gW i r k) s) [] [0, 3, 4, 5, 21] = some (.normal, gS (gW i r k ++ [(21, .bool (decide (k < 8)))]) s) := by kernel_rfl
theorem gr9 (s : ByteArray) (i r k : Int) : frRun [] 32 g9 (gS (gW i r k) s) [] [0, 3, 4, 5] = bif decide (r ≥ 32768) then some (.normal, gS (gW i (xorV .u16 (IntKind.u16.wrap (r * 2 ^ 1)) 4129) k) s) else some (.normal, gS (gW i (IntKind.u16.wrap (r * 2 ^ 1)) k) s) := by kernel_rfl
theorem gr8 (s : ByteArray) (i r k : Int) : frRun [] 32 g8 (gS (gW i r k) s) [] [0, 3, 4, 5] = some (.normal, gS (gW i r (IntKind.i64.wrap (k + 1))) s) := by kernel_rfl
theorem gr4 (s : ByteArray) (i r : Int) : frRun [] 32 g4 (gS (gV i r) s) [] [0, 3, 4] = some (.normal, gS (gV (IntKind.i64.wrap (i + 1)) r) s) := by kernel_rfl
def gSE (r : Int) : St := mkSt 32 [2] [.int .u16 r] [] [] [] 4096 frH frT
theorem grE (s : ByteArray) (i r : Int) : frRun [] 32 gE (gS (gV i r) s) [] [2] = some (.ret, gSE r) := by kernel_rfl
theorem gRes (r : Int) : resA Try.prog (gSE r) Try.f10.results.toList = some [.val (.int .u16 r)] := by kernel_rfl
end Go.Ab
