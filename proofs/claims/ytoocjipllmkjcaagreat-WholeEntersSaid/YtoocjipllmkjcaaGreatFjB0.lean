/- A part of the proof of 'CraftHolds': lemmas, no statement of their own; no condition. -/
import Derived.Test.YtoocjipllmkjcaaGreatFjA
namespace Go.Ab
open Go Go.Proofs
def pmN(o:Ops)(u v:Nat→Int):Nat→Nat→Int×Bool→Int×Bool
 | _,0,s=>s
 | k,n+1,s=>pmN o u v (k+1) n (let p:=o.mul s.2 (u k) (v k);o.add p.2 s.1 p.1)
def pmO(o:Ops)(b:Bool)(u v:Nat→Int):Int×Bool :=
 let p:=o.mul b (u 0) (v 0)
 let s:=pmN o u v 1 12 (o.add p.2 p.1 p.1)
 o.part s.2 s.1 1 14
noncomputable def prC:Code:=Tryz.f58.body.getD .skip
noncomputable def pr0:Code:=seqL prC
noncomputable def pr1:Code:=seqL (seqR prC)
noncomputable def prA:Code:=seqL (seqR (seqR prC))
noncomputable def pr2:Code:=seqL prA
noncomputable def prL:Code:=inB (inB (seqR prA))
noncomputable def prE:Code:=seqR (seqR (seqR prC))
noncomputable def pr3:Code:=seqL prL
noncomputable def pr3b:Code:=seqL (seqR prL)
noncomputable def prI:Code:=inB (seqL (seqR (seqR prL)))
noncomputable def pr4:Code:=seqL prI
noncomputable def pr5:Code:=seqL (seqR prI)
noncomputable def prM:Code:=inB (inB (seqR (seqR prI)))
noncomputable def pr10:Code:=seqR (seqR (seqR prL))
theorem P2m:Tryz.f58.body=some (.seq pr0 (.seq pr1 (.seq (.seq pr2 (.block 0 (.loop prL))) prE))):=by kernel_rfl
theorem C3u:prL=.seq pr3 (.seq pr3b (.seq (.block 1 (.seq pr4 (.seq pr5 (.block 2 (.loop prM))))) pr10)):=by kernel_rfl
abbrev nE:Nat:=4096+4*2^180
abbrev nF:Nat:=4096+5*2^180
abbrev nG:Nat:=4096+6*2^180
def B0e(m:Mx):List AV:=(nums 0 36).map fun j=>.val (.int .i64 (m (j / 6) (j % 6)))
def prFx:List (Nat×AV):=[(3,.ptr nA 0),(4,.ptr nB 0),(5,.ptr nC 0),(6,.ptr nD 0),(7,.ptr nE 0)]
def prS(e:List (Nat×AV))(H:Hp)(lo:Nat):St:=gSt 26 (prFx++e) H lo
abbrev prT(t:List Nat):List Nat:=[3,4,5,6,7]++t
def G0x(o:Ops)(x y:Mx)(i j:Nat)(z:Mx×Bool):Mx×Bool:=(setM z.1 i j (pmO o z.2 (fun k=>x k i) (fun k=>y k j)).1,(pmO o z.2 (fun k=>x k i) (fun k=>y k j)).2)
def D0r(o:Ops)(x y:Mx)(i:Nat)(z:Mx×Bool):Mx×Bool:=A0k (G0x o x y i) 0 6 z
def Q1g(o:Ops)(b:Bool)(x y:Mx):Mx×Bool:=A0k (D0r o x y) 0 6 (mx0,b)
theorem C3d:Tryz.prog.funcs[58]?=some Tryz.f58:=by kernel_rfl
theorem prN:Tryz.f58.ntmps=26:=by kernel_rfl
end Go.Ab
