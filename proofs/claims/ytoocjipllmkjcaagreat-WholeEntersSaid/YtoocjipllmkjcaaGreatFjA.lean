/- A part of the proof of 'CraftHolds': lemmas, no statement of their own; no condition. -/
import Derived.Test.YtoocjipllmkjcaaGreatGMaA
import Derived.Test.YtoocjipllmkjcaaGreatGTrB
import Derived.Test.YtoocjipllmkjcaaGreatGQtC
namespace Go.Ab
open Go Go.Proofs
def addN(o:Ops)(v:Nat→Int):Nat→Nat→Int×Bool→Int×Bool
 | _,0,s=>s
 | k,n+1,s=>addN o v (k+1) n (o.add s.2 s.1 (v k))
def J0e(o:Ops)(b:Bool)(v:Nat→Int):Int×Bool :=
 let s:=addN o v 1 12 (o.add b (v 0) (v 0))
 o.part s.2 s.1 1 14
def C0d(x:Mx):List AV:=(nums 0 78).map fun j=>.val (.int .i64 (x (j / 6) (j % 6)))
def B0c(o:Ops)(m:Nat→Int)(k:Nat):Nat→Nat→Mx×Bool→Mx×Bool
 | _,0,s=>s
 | i,n+1,s=>B0c o m k (i+1) n (setM s.1 k i (o.sub s.2 (s.1 k i) (m i)).1,(o.sub s.2 (s.1 k i) (m i)).2)
noncomputable def ctC:Code:=Tryz.f57.body.getD .skip
noncomputable def ct0:Code:=seqL ctC
noncomputable def ct1:Code:=seqL (seqR ctC)
noncomputable def ctA:Code:=seqL (seqR (seqR ctC))
noncomputable def ct2:Code:=seqL ctA
noncomputable def ctL:Code:=inB (inB (seqR ctA))
noncomputable def ctB:Code:=seqL (seqR (seqR (seqR ctC)))
noncomputable def ct7:Code:=seqL ctB
noncomputable def ctM:Code:=inB (inB (seqR ctB))
noncomputable def ctE:Code:=seqR (seqR (seqR (seqR ctC)))
theorem B3r:Tryz.f57.body=some (.seq ct0 (.seq ct1 (.seq (.seq ct2 (.block 0 (.loop ctL))) (.seq (.seq ct7 (.block 2 (.loop ctM))) ctE)))):=by kernel_rfl
theorem ctN:Tryz.f57.ntmps=45:=by kernel_rfl
abbrev nA:Nat:=4096
abbrev nB:Nat:=4096+2^180
abbrev nC:Nat:=4096+2*2^180
abbrev nD:Nat:=4096+3*2^180
def ctH(x:Mx)(m:Nat→Int)(b:Bool):Hp:=[(0,.row 112 (C0d x)),(1,.row 57 [.val (.bool b)]),(nA,.row 121 [.ptr 0 0]),(nB,.row 38 (ints 6 fun _=>0)),(nC,.row 38 (ints 6 m))]
def ctS(t:Nat)(i:Int)(x:Mx)(m:Nat→Int)(b:Bool):St:=gSt 45 [(1,.ptr 1 0),(2,.ptr nA 0),(4,.ptr nB 0),(5,.ptr nC 0),(t,.val (.int .i64 i))] (ctH x m b) nD
abbrev ctK:List Nat:=[0,1,nA,nB,nC]
abbrev ctT(t:Nat):List Nat:=[1,2,4,5,t]
section
variable (o:Ops) (x:Mx) (m:Nat→Int) (b:Bool)
def ctS0(x:Mx)(b:Bool):St:=gSt 45 [(1,.ptr 1 0),(2,.ptr nA 0),(4,.ptr nB 0)] [(0,.row 112 (C0d x)),(1,.row 57 [.val (.bool b)]),(nA,.row 121 [.ptr 0 0]),(nB,.row 38 (ints 6 fun _=>0))] nC
def ctS1(x:Mx)(b:Bool):St:=gSt 45 [(1,.ptr 1 0),(2,.ptr nA 0),(4,.ptr nB 0),(5,.ptr nC 0)] (ctH x (fun _=>0) b) nD
theorem cq0:gRun Tryz.prog {gam:=gamN o} 45 ct0 (B0t 45 [.ptr 0 0,.ptr 1 0] [.row 112 (C0d x),.row 57 [.val (.bool b)]]) [0,1,nA,nB] [1,2,4]=some (.normal,ctS0 x b):=by kernel_rfl
theorem cq1:gRun Tryz.prog {gam:=gamN o} 45 ct1 (ctS0 x b) ctK [1,2,4,5]=some (.normal,ctS1 x b):=by kernel_rfl
theorem cq2:gRun Tryz.prog {gam:=gamN o} 45 ct2 (ctS1 x b) ctK (ctT 9)=some (.normal,ctS 9 0 x (fun _=>0) b):=by kernel_rfl
theorem W4b:gCut Tryz.prog {gam:=gamN o} 45 ctL (ctS 9 0 x m b) nD ctK (ctT 9)=some (.normal,ctS 9 1 x (setR m 0 (J0e o b fun k=>x k 0).1) (J0e o b fun k=>x k 0).2):=by kernel_rfl
theorem W4c:gCut Tryz.prog {gam:=gamN o} 45 ctL (ctS 9 1 x m b) nD ctK (ctT 9)=some (.normal,ctS 9 2 x (setR m 1 (J0e o b fun k=>x k 1).1) (J0e o b fun k=>x k 1).2):=by kernel_rfl
theorem W4d:gCut Tryz.prog {gam:=gamN o} 45 ctL (ctS 9 2 x m b) nD ctK (ctT 9)=some (.normal,ctS 9 3 x (setR m 2 (J0e o b fun k=>x k 2).1) (J0e o b fun k=>x k 2).2):=by kernel_rfl
theorem W4e:gCut Tryz.prog {gam:=gamN o} 45 ctL (ctS 9 3 x m b) nD ctK (ctT 9)=some (.normal,ctS 9 4 x (setR m 3 (J0e o b fun k=>x k 3).1) (J0e o b fun k=>x k 3).2):=by kernel_rfl
theorem W4g:gCut Tryz.prog {gam:=gamN o} 45 ctL (ctS 9 4 x m b) nD ctK (ctT 9)=some (.normal,ctS 9 5 x (setR m 4 (J0e o b fun k=>x k 4).1) (J0e o b fun k=>x k 4).2):=by kernel_rfl
theorem W4h:gCut Tryz.prog {gam:=gamN o} 45 ctL (ctS 9 5 x m b) nD ctK (ctT 9)=some (.normal,ctS 9 6 x (setR m 5 (J0e o b fun k=>x k 5).1) (J0e o b fun k=>x k 5).2):=by kernel_rfl
theorem W4j:gCut Tryz.prog {gam:=gamN o} 45 ctL (ctS 9 6 x m b) nD ctK (ctT 9)=some (.exit 0,ctS 9 6 x m b):=by kernel_rfl
theorem cq7:gCut Tryz.prog {gam:=gamN o} 45 ct7 (ctS 9 6 x m b) nD ctK (ctT 18)=some (.normal,ctS 18 0 x m b):=by kernel_rfl
theorem W4k:gCut Tryz.prog {gam:=gamN o} 45 ctM (ctS 18 0 x m b) nD ctK (ctT 18)=some (.normal,ctS 18 1 (B0c o m 0 0 6 (x,b)).1 m (B0c o m 0 0 6 (x,b)).2):=by kernel_rfl
theorem W4m:gCut Tryz.prog {gam:=gamN o} 45 ctM (ctS 18 1 x m b) nD ctK (ctT 18)=some (.normal,ctS 18 2 (B0c o m 1 0 6 (x,b)).1 m (B0c o m 1 0 6 (x,b)).2):=by kernel_rfl
theorem W4n:gCut Tryz.prog {gam:=gamN o} 45 ctM (ctS 18 2 x m b) nD ctK (ctT 18)=some (.normal,ctS 18 3 (B0c o m 2 0 6 (x,b)).1 m (B0c o m 2 0 6 (x,b)).2):=by kernel_rfl
theorem W4p:gCut Tryz.prog {gam:=gamN o} 45 ctM (ctS 18 3 x m b) nD ctK (ctT 18)=some (.normal,ctS 18 4 (B0c o m 3 0 6 (x,b)).1 m (B0c o m 3 0 6 (x,b)).2):=by kernel_rfl
theorem W4q:gCut Tryz.prog {gam:=gamN o} 45 ctM (ctS 18 4 x m b) nD ctK (ctT 18)=some (.normal,ctS 18 5 (B0c o m 4 0 6 (x,b)).1 m (B0c o m 4 0 6 (x,b)).2):=by kernel_rfl
theorem W4r:gCut Tryz.prog {gam:=gamN o} 45 ctM (ctS 18 5 x m b) nD ctK (ctT 18)=some (.normal,ctS 18 6 (B0c o m 5 0 6 (x,b)).1 m (B0c o m 5 0 6 (x,b)).2):=by kernel_rfl
theorem W4t:gCut Tryz.prog {gam:=gamN o} 45 ctM (ctS 18 6 x m b) nD ctK (ctT 18)=some (.normal,ctS 18 7 (B0c o m 6 0 6 (x,b)).1 m (B0c o m 6 0 6 (x,b)).2):=by kernel_rfl
theorem W4u:gCut Tryz.prog {gam:=gamN o} 45 ctM (ctS 18 7 x m b) nD ctK (ctT 18)=some (.normal,ctS 18 8 (B0c o m 7 0 6 (x,b)).1 m (B0c o m 7 0 6 (x,b)).2):=by kernel_rfl
theorem W4v:gCut Tryz.prog {gam:=gamN o} 45 ctM (ctS 18 8 x m b) nD ctK (ctT 18)=some (.normal,ctS 18 9 (B0c o m 8 0 6 (x,b)).1 m (B0c o m 8 0 6 (x,b)).2):=by kernel_rfl
theorem W4w:gCut Tryz.prog {gam:=gamN o} 45 ctM (ctS 18 9 x m b) nD ctK (ctT 18)=some (.normal,ctS 18 10 (B0c o m 9 0 6 (x,b)).1 m (B0c o m 9 0 6 (x,b)).2):=by kernel_rfl
theorem W3p:gCut Tryz.prog {gam:=gamN o} 45 ctM (ctS 18 10 x m b) nD ctK (ctT 18)=some (.normal,ctS 18 11 (B0c o m 10 0 6 (x,b)).1 m (B0c o m 10 0 6 (x,b)).2):=by kernel_rfl
theorem W3q:gCut Tryz.prog {gam:=gamN o} 45 ctM (ctS 18 11 x m b) nD ctK (ctT 18)=some (.normal,ctS 18 12 (B0c o m 11 0 6 (x,b)).1 m (B0c o m 11 0 6 (x,b)).2):=by kernel_rfl
theorem W3r:gCut Tryz.prog {gam:=gamN o} 45 ctM (ctS 18 12 x m b) nD ctK (ctT 18)=some (.normal,ctS 18 13 (B0c o m 12 0 6 (x,b)).1 m (B0c o m 12 0 6 (x,b)).2):=by kernel_rfl
theorem W3t:gCut Tryz.prog {gam:=gamN o} 45 ctM (ctS 18 13 x m b) nD ctK (ctT 18)=some (.exit 2,ctS 18 13 x m b):=by kernel_rfl
def ctF(x:Mx)(m:Nat→Int)(b:Bool):St:=gSt 45 [(4,.ptr nB 0)] [(0,.row 112 (C0d x)),(1,.row 57 [.val (.bool b)]),(nB,.row 38 (ints 6 m))] nD
theorem cqE:gRun Tryz.prog {gam:=gamN o} 45 ctE (ctS 18 13 x m b) [0,1,nB] [4]=some (.ret,ctF x m b):=by kernel_rfl
theorem cqR:resA Tryz.prog (ctF x m b) Tryz.f57.results.toList=some [.val (Cod.enc (R6.of m))]:=by kernel_rfl
theorem cqc9(i:Int):A0p nD (ctS 9 i x m b)=true:=by kernel_rfl
theorem T0d(i:Int):A0p nD (ctS 18 i x m b)=true:=by kernel_rfl
end
def ctPA(o:Ops)(x:Mx)(i:Nat)(z:(Nat→Int)×Bool):(Nat→Int)×Bool:=(setR z.1 i (J0e o z.2 fun k=>x k i).1,(J0e o z.2 fun k=>x k i).2)
def ctPM(o:Ops)(m:Nat→Int)(k:Nat)(z:Mx×Bool):Mx×Bool:=B0c o m k 0 6 z
def P0t(o:Ops)(b:Bool)(x:Mx):(Mx×(Nat→Int))×Bool :=
 let m:=A0k (ctPA o x) 0 6 (fun _=>0,b)
 let y:=A0k (ctPM o m.1) 0 13 (x,m.2)
 ((y.1,m.1),y.2)
theorem Y0c(x:Mx)(m:Nat→Int)(b:Bool)(i:Int):(ctS 9 i x m b).lo=nD:=rfl
theorem H0a(x:Mx)(m:Nat→Int)(b:Bool)(i:Int):(ctS 18 i x m b).lo=nD:=rfl
theorem L0e(t t':Nat)(x x':Mx)(m m':Nat→Int)(b b':Bool)(i i':Int):(ctS t i x m b).hi=(ctS t' i' x' m' b').hi:=rfl
section
variable {o:Ops} (hG:GamOk Tryz.prog ({gam:=gamN o}:Env).gam) (x:Mx) (m:Nat→Int) (b:Bool)
include hG
theorem W4x:A0b Tryz.prog 45 ctL (ctS 9 0 x m b) .normal (ctS 9 1 x (setR m 0 (J0e o b fun k=>x k 0).1) (J0e o b fun k=>x k 0).2):=A0c hG (W4b o x m b) (Y0c ..) (cqc9 ..) (L0e ..)
theorem W4y:A0b Tryz.prog 45 ctL (ctS 9 1 x m b) .normal (ctS 9 2 x (setR m 1 (J0e o b fun k=>x k 1).1) (J0e o b fun k=>x k 1).2):=A0c hG (W4c o x m b) (Y0c ..) (cqc9 ..) (L0e ..)
theorem W4z:A0b Tryz.prog 45 ctL (ctS 9 2 x m b) .normal (ctS 9 3 x (setR m 2 (J0e o b fun k=>x k 2).1) (J0e o b fun k=>x k 2).2):=A0c hG (W4d o x m b) (Y0c ..) (cqc9 ..) (L0e ..)
theorem X4a:A0b Tryz.prog 45 ctL (ctS 9 3 x m b) .normal (ctS 9 4 x (setR m 3 (J0e o b fun k=>x k 3).1) (J0e o b fun k=>x k 3).2):=A0c hG (W4e o x m b) (Y0c ..) (cqc9 ..) (L0e ..)
theorem X4b:A0b Tryz.prog 45 ctL (ctS 9 4 x m b) .normal (ctS 9 5 x (setR m 4 (J0e o b fun k=>x k 4).1) (J0e o b fun k=>x k 4).2):=A0c hG (W4g o x m b) (Y0c ..) (cqc9 ..) (L0e ..)
theorem X4c:A0b Tryz.prog 45 ctL (ctS 9 5 x m b) .normal (ctS 9 6 x (setR m 5 (J0e o b fun k=>x k 5).1) (J0e o b fun k=>x k 5).2):=A0c hG (W4h o x m b) (Y0c ..) (cqc9 ..) (L0e ..)
theorem X4d:A0b Tryz.prog 45 ctL (ctS 9 6 x m b) (.exit 0) (ctS 9 6 x m b):=A0c hG (W4j o x m b) (Y0c ..) (cqc9 ..) (L0e ..)
theorem X4e:A0b Tryz.prog 45 ctM (ctS 18 0 x m b) .normal (ctS 18 1 (B0c o m 0 0 6 (x,b)).1 m (B0c o m 0 0 6 (x,b)).2):=A0c hG (W4k o x m b) (H0a ..) (T0d ..) (L0e ..)
theorem X4g:A0b Tryz.prog 45 ctM (ctS 18 1 x m b) .normal (ctS 18 2 (B0c o m 1 0 6 (x,b)).1 m (B0c o m 1 0 6 (x,b)).2):=A0c hG (W4m o x m b) (H0a ..) (T0d ..) (L0e ..)
theorem X4h:A0b Tryz.prog 45 ctM (ctS 18 2 x m b) .normal (ctS 18 3 (B0c o m 2 0 6 (x,b)).1 m (B0c o m 2 0 6 (x,b)).2):=A0c hG (W4n o x m b) (H0a ..) (T0d ..) (L0e ..)
theorem X4j:A0b Tryz.prog 45 ctM (ctS 18 3 x m b) .normal (ctS 18 4 (B0c o m 3 0 6 (x,b)).1 m (B0c o m 3 0 6 (x,b)).2):=A0c hG (W4p o x m b) (H0a ..) (T0d ..) (L0e ..)
theorem X4k:A0b Tryz.prog 45 ctM (ctS 18 4 x m b) .normal (ctS 18 5 (B0c o m 4 0 6 (x,b)).1 m (B0c o m 4 0 6 (x,b)).2):=A0c hG (W4q o x m b) (H0a ..) (T0d ..) (L0e ..)
theorem X4m:A0b Tryz.prog 45 ctM (ctS 18 5 x m b) .normal (ctS 18 6 (B0c o m 5 0 6 (x,b)).1 m (B0c o m 5 0 6 (x,b)).2):=A0c hG (W4r o x m b) (H0a ..) (T0d ..) (L0e ..)
theorem X4n:A0b Tryz.prog 45 ctM (ctS 18 6 x m b) .normal (ctS 18 7 (B0c o m 6 0 6 (x,b)).1 m (B0c o m 6 0 6 (x,b)).2):=A0c hG (W4t o x m b) (H0a ..) (T0d ..) (L0e ..)
theorem X4p:A0b Tryz.prog 45 ctM (ctS 18 7 x m b) .normal (ctS 18 8 (B0c o m 7 0 6 (x,b)).1 m (B0c o m 7 0 6 (x,b)).2):=A0c hG (W4u o x m b) (H0a ..) (T0d ..) (L0e ..)
theorem X4q:A0b Tryz.prog 45 ctM (ctS 18 8 x m b) .normal (ctS 18 9 (B0c o m 8 0 6 (x,b)).1 m (B0c o m 8 0 6 (x,b)).2):=A0c hG (W4v o x m b) (H0a ..) (T0d ..) (L0e ..)
theorem X4r:A0b Tryz.prog 45 ctM (ctS 18 9 x m b) .normal (ctS 18 10 (B0c o m 9 0 6 (x,b)).1 m (B0c o m 9 0 6 (x,b)).2):=A0c hG (W4w o x m b) (H0a ..) (T0d ..) (L0e ..)
theorem X3m:A0b Tryz.prog 45 ctM (ctS 18 10 x m b) .normal (ctS 18 11 (B0c o m 10 0 6 (x,b)).1 m (B0c o m 10 0 6 (x,b)).2):=A0c hG (W3p o x m b) (H0a ..) (T0d ..) (L0e ..)
theorem X3n:A0b Tryz.prog 45 ctM (ctS 18 11 x m b) .normal (ctS 18 12 (B0c o m 11 0 6 (x,b)).1 m (B0c o m 11 0 6 (x,b)).2):=A0c hG (W3q o x m b) (H0a ..) (T0d ..) (L0e ..)
theorem X3p:A0b Tryz.prog 45 ctM (ctS 18 12 x m b) .normal (ctS 18 13 (B0c o m 12 0 6 (x,b)).1 m (B0c o m 12 0 6 (x,b)).2):=A0c hG (W3r o x m b) (H0a ..) (T0d ..) (L0e ..)
theorem X3q:A0b Tryz.prog 45 ctM (ctS 18 13 x m b) (.exit 2) (ctS 18 13 x m b):=A0c hG (W3t o x m b) (H0a ..) (T0d ..) (L0e ..)
theorem U2g:A0b Tryz.prog 45 (.block 0 (.loop ctL)) (ctS 9 0 x m b) .normal (ctS 9 6 x (A0k (ctPA o x) 0 6 (m,b)).1 (A0k (ctPA o x) 0 6 (m,b)).2) :=
 A0b.rounds (P:=Tryz.prog) (N:=45) (c:=ctL) (id:=0) 6 (fun i z=>ctS 9 i x z.1 z.2) (fun z=>ctS 9 6 x z.1 z.2) (ctPA o x)
  (fun i z hi=>match i,hi with
   | 0,_=>W4x hG x z.1 z.2
   | 1,_=>W4y hG x z.1 z.2
   | 2,_=>W4z hG x z.1 z.2
   | 3,_=>X4a hG x z.1 z.2
   | 4,_=>X4b hG x z.1 z.2
   | 5,_=>X4c hG x z.1 z.2
   | n+6,h=>absurd h (by omega))
  (fun z=>X4d hG x z.1 z.2) (m,b)
theorem U2h:A0b Tryz.prog 45 (.block 2 (.loop ctM)) (ctS 18 0 x m b) .normal (ctS 18 13 (A0k (ctPM o m) 0 13 (x,b)).1 m (A0k (ctPM o m) 0 13 (x,b)).2) :=
 A0b.rounds (P:=Tryz.prog) (N:=45) (c:=ctM) (id:=2) 13 (fun k z=>ctS 18 k z.1 m z.2) (fun z=>ctS 18 13 z.1 m z.2) (ctPM o m)
  (fun k z hk=>match k,hk with
   | 0,_=>X4e hG z.1 m z.2
   | 1,_=>X4g hG z.1 m z.2
   | 2,_=>X4h hG z.1 m z.2
   | 3,_=>X4j hG z.1 m z.2
   | 4,_=>X4k hG z.1 m z.2
   | 5,_=>X4m hG z.1 m z.2
   | 6,_=>X4n hG z.1 m z.2
   | 7,_=>X4p hG z.1 m z.2
   | 8,_=>X4q hG z.1 m z.2
   | 9,_=>X4r hG z.1 m z.2
   | 10,_=>X3m hG z.1 m z.2
   | 11,_=>X3n hG z.1 m z.2
   | 12,_=>X3p hG z.1 m z.2
   | n+13,h=>absurd h (by omega))
  (fun z=>X3q hG z.1 m z.2) (x,b)
theorem T1d:A0b Tryz.prog 45 ctC (B0t 45 [.ptr 0 0,.ptr 1 0] [.row 112 (C0d x),.row 57 [.val (.bool b)]]) .ret (ctF (P0t o b x).1.1 (P0t o b x).1.2 (P0t o b x).2):=by
 have hc:ctC=.seq ct0 (.seq ct1 (.seq (.seq ct2 (.block 0 (.loop ctL))) (.seq (.seq ct7 (.block 2 (.loop ctM))) ctE))):=by
  unfold ctC
  rw[B3r]
  rfl
 rw[hc]
 have hA:=U2g hG x (fun _=>0) b
 generalize hm:A0k (ctPA o x) 0 6 (fun _=>0,b)=m at hA
 have hM:=U2h hG x m.1 m.2
 have hx:P0t o b x=(((A0k (ctPM o m.1) 0 13 (x,m.2)).1,m.1),(A0k (ctPM o m.1) 0 13 (x,m.2)).2):=by unfold P0t;rw[hm]
 rw[hx]
 generalize A0k (ctPM o m.1) 0 13 (x,m.2)=y at hM
 have h2:=A0a hG (cq2 o x b)
 have h7:=A0c hG (cq7 o x m.1 m.2) (Y0c ..) (T0d ..) (L0e ..)
 have hEnd:=A0a hG (cqE o y.1 m.1 y.2)
 exact (A0a hG (cq0 o x b)).seq ((A0a hG (cq1 o x b)).seq ((h2.seq hA).seq ((h7.seq hM).seq hEnd)))
end
theorem A4k:Tryz.prog.funcs[57]?=some Tryz.f57:=by kernel_rfl
end Go.Ab
