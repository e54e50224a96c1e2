/- A part of the proof of 'FrameOpens': lemmas, no statement of their own; no condition. -/
import Derived.Test.YtanilhagglikjaaFrN
import Derived.Test.YtanilhagglikjaaDrB
/- frame.Scan: its pieces. -/
namespace Go.Ab
open Go Go.Proofs
noncomputable def sC : Code := Try.f16.body.getD .skip
noncomputable def sc0 : Code := seqL sC
noncomputable def sc1 : Code := seqL (seqR sC)
noncomputable def sc2 : Code := seqL (seqR (seqR sC))
noncomputable def sB : Code := inB (inB (inB (seqR (seqR (seqR sC)))))
noncomputable def sc3 : Code := seqL sB
noncomputable def sc4 : Code := seqL (seqR sB)
noncomputable def sc6 : Code := seqL (seqR (seqR sB))
noncomputable def sT7 : Code := seqR (seqR (seqR sB))
noncomputable def sc7 : Code := seqL sT7
noncomputable def sc9 : Code := seqL (seqR sT7)
noncomputable def sc10 : Code := seqL (seqR (seqR sT7))
noncomputable def sc12 : Code := seqL (seqR (seqR (seqR sT7)))
noncomputable def sX : Code := seqR (seqR (seqR (seqR sT7)))
noncomputable def sc13 : Code := seqL sX
noncomputable def sO14 : Array Oper := regO (ifT (seqR sX))
noncomputable def sc15 : Code := ifE (seqR sX)
theorem sC_is : Try.f16.body = some (.seq sc0 (.seq sc1 (.seq sc2 (.block 0 (.loop (.block 1 sB)))))) := by kernel_rfl
theorem sB_is : sB = .seq sc3 (.seq sc4 (.seq sc6 (.seq sc7 (.seq sc9 (.seq sc10 (.seq sc12 (.seq sc13 (.cond (.tmp 57) (.region 14 sO14 true) sc15)))))))) := by kernel_rfl
theorem sN : Try.f16.ntmps = 69 := by kernel_rfl
def sS (s : ByteArray) (a : Option Addr) (n c : Nat) (o : Int) (l : List (Nat × Value)) : St := mkSt 69 ([0, 5, 6] ++ l.map (·.1)) ([.string s, .slice a n c, .int .i64 o] ++ l.map (·.2)) [] [] [] 4096 frH frT
def sR (a : Option Addr) (n c : Nat) (s : ByteArray) (o : Int) : St := mkSt 69 [2, 3, 4] [.slice a n c, .string s, .int .i64 o] [] [] [] 4096 frH frT
abbrev ScG := ByteArray × N8 × Unit → Int
abbrev OpG := ByteArray × Unit → Two Fr Bool
def scGam (ix : ScG) (po : ByteArray × Unit → Bool) (op : OpG) : Gam := [(20, S0w (fun _ => true) ix), (14, S0w po op)]
section
variable (ix : ScG) (po : ByteArray × Unit → Bool) (op : OpG) (s : ByteArray) (a : Option Addr) (n c : Nat) (o i : Int)
theorem sr0 : frRun (scGam ix po op) 69 sc0 ⟨[Value.string s].map .val ++ List.replicate (69 - [Value.string s].length) (.val undef), [], 4096, frH, frT, []⟩ [] [0] = some (.normal, mkSt 69 [0] [.string s] [] [] [] 4096 frH frT) := by kernel_rfl
theorem sr1 : frRun (scGam ix po op) 69 sc1 (mkSt 69 [0] [.string s] [] [] [] 4096 frH frT) [] [0, 5] = some (.normal, mkSt 69 [0, 5] [.string s, .slice none 0 0] [] [] [] 4096 frH frT) := by kernel_rfl
theorem sr2 : frRun (scGam ix po op) 69 sc2 (mkSt 69 [0, 5] [.string s, .slice none 0 0] [] [] [] 4096 frH frT) [] [0, 5, 6] = some (.normal, sS s none 0 0 0 []) := by kernel_rfl
theorem sr3 : frRun (scGam ix po op) 69 sc3 (sS s a n c o []) [] [0, 5, 6, 7] = some (.normal, sS s a n c o [(7, .int .i64 (ix (s, ⟨165⟩, ())))]) := by kernel_rfl
theorem sr4 : frRun (scGam ix po op) 69 sc4 (sS s a n c o [(7, .int .i64 i)]) [] [0, 2, 3, 4, 5, 6, 7] = bif decide (i < 0) then some (.ret, mkSt 69 [0, 5, 6, 7, 2, 3, 4] [.string s, .slice a n c, .int .i64 o, .int .i64 i, .slice a n c, .string ⟨#[]⟩, .int .i64 (IntKind.i64.wrap (o + s.size))] [] [] [] 4096 frH frT) else some (.normal, { sS s a n c o [(7, .int .i64 i)] with tmps := (sS s a n c o [(7, .int .i64 i)]).tmps }) := by kernel_rfl
theorem sr6 : frRun (scGam ix po op) 69 sc6 (sS s a n c o [(7, .int .i64 i)]) [] [0, 5, 6] = bif decide (0 ≤ i ∧ i ≤ (s.size : Int) ∧ (s.size : Int) ≤ (s.size : Int)) then some (.normal, sS (s.extract i.toNat ((s.size : Nat) : Int).toNat) a n c (IntKind.i64.wrap (o + i)) []) else none := by kernel_rfl
theorem sr7 : frRun (scGam ix po op) 69 sc7 (sS s a n c o []) [] [0, 2, 3, 4, 5, 6] = bif decide ((s.size : Int) < 3) then some (.ret, mkSt 69 [0, 5, 6, 2, 3, 4] [.string s, .slice a n c, .int .i64 o, .slice a n c, .string s, .int .i64 o] [] [] [] 4096 frH frT) else some (.normal, { sS s a n c o [] with tmps := (sS s a n c o []).tmps }) := by kernel_rfl
theorem sr9 : frRun (scGam ix po op) 69 sc9 (sS s a n c o []) [] [0, 5, 6, 8] = bif decide (0 ≤ (2 : Int) ∧ 2 < (s.size : Int)) then some (.normal, sS s a n c o [(8, .int .i64 (IntKind.i64.wrap (IntKind.i64.wrap (byteI s 2) + 5)))]) else none := by kernel_rfl
def sRet8 (m : Int) : Option (Ex × St) := some (.ret, mkSt 69 [0, 5, 6, 8, 2, 3, 4] [.string s, .slice a n c, .int .i64 o, .int .i64 m, .slice a n c, .string s, .int .i64 o] [] [] [] 4096 frH frT)
theorem sr10 (m : Int) : frRun (scGam ix po op) 69 sc10 (sS s a n c o [(8, .int .i64 m)]) [] [0, 2, 3, 4, 5, 6, 8] =
    bif decide (m > (s.size : Int)) then bif (bif true then decide (m ≤ 69) else false) then sRet8 s a n c o m else some (.normal, { sS s a n c o [(8, .int .i64 m)] with tmps := (sS s a n c o [(8, .int .i64 m)]).tmps }) else some (.normal, { sS s a n c o [(8, .int .i64 m)] with tmps := (sS s a n c o [(8, .int .i64 m)]).tmps }) := by kernel_rfl
def sX' (s : ByteArray) (a : Option Addr) (n c : Nat) (o m : Int) (x : Two Fr Bool) : St := mkSt 69 [0, 5, 6, 8, 10] [.string s, .slice a n c, .int .i64 o, .int .i64 m, .bool x.b] [(9, 4096, 0)] [(4096, 26, 2)] [.int .i64 x.a.kind, .string x.a.data] fr2 frH frT
def sY (s : ByteArray) (a : Option Addr) (n c : Nat) (o m : Int) (x : Two Fr Bool) : St := mkSt 69 [0, 5, 6, 8, 10, 57] [.string s, .slice a n c, .int .i64 o, .int .i64 m, .bool x.b, .bool x.b] [(9, 4096, 0)] [(4096, 26, 2)] [.int .i64 x.a.kind, .string x.a.data] fr2 frH frT
def minI (a b : Int) : Int := if b < a then b else a
theorem sr12 (m : Int) : frRun (scGam ix po op) 69 sc12 (sS s a n c o [(8, .int .i64 m)]) [4096] [0, 5, 6, 8, 9, 10] =
    let q := minI m s.size
    let cut := s.extract ((0 : Nat) : Int).toNat q.toNat
    bif decide (0 ≤ ((0 : Nat) : Int) ∧ ((0 : Nat) : Int) ≤ q ∧ q ≤ (s.size : Int)) then bif po (cut, ()) then some (.normal, sX' s a n c o m (op (cut, ()))) else none else none := by kernel_rfl
theorem sr13 (m : Int) (x : Two Fr Bool) : frRun (scGam ix po op) 69 sc13 (sX' s a n c o m x) [4096] [0, 5, 6, 8, 9, 10, 57] = some (.normal, sY s a n c o m x) := by kernel_rfl
theorem sr15 (m : Int) (x : Two Fr Bool) : frRun (scGam ix po op) 69 sc15 (sY s a n c o m x) [] [0, 5, 6] = bif decide (0 ≤ (1 : Int) ∧ 1 ≤ (s.size : Int) ∧ (s.size : Int) ≤ (s.size : Int)) then some (.normal, { sS (s.extract (Int.toNat 1) ((s.size : Nat) : Int).toNat) a n c (IntKind.i64.wrap (o + 1)) [] with lo := fr2 }) else none := by kernel_rfl
end
end Go.Ab
