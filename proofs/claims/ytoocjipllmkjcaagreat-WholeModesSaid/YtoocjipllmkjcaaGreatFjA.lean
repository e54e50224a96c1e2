/- A part of the proof of 'WholeModes': lemmas, no statement of their own; no condition. -/
import Derived.Test.YtoocjipllmkjcaaGreatGMaA
import Derived.Test.YtoocjipllmkjcaaGreatGTrB
import Derived.Test.YtoocjipllmkjcaaGreatGNumA
namespace Go.Ab
open Go Go.Proofs
def addN(o:Ops)(v:Nat→Int):Nat→Nat→Int×Bool→Int×Bool
 | _,0,s=>s
 | k,n+1,s=>addN o v (k+1) n (o.add s.2 s.1 (v k))
def meanO(o:Ops)(b:Bool)(v:Nat→Int):Int×Bool :=
 let s:=addN o v 1 12 (o.add b (v 0) (v 0))
 o.part s.2 s.1 1 14
def cells13(x:Mx):List AV:=(nums 0 78).map fun j=>.val (.int .i64 (x (j / 6) (j % 6)))
def subRow(o:Ops)(m:Nat→Int)(k:Nat):Nat→Nat→Mx×Bool→Mx×Bool
 | _,0,s=>s
 | i,n+1,s=>subRow o m k (i+1) n (setM s.1 k i (o.sub s.2 (s.1 k i) (m i)).1,(o.sub s.2 (s.1 k i) (m i)).2)
noncomputable def ctC:Code:=Tryz.f57.body.getD .skip
noncomputable def ct0:Code:=seqL ctC
noncomputable def ct1:Code:=seqL (seqR ctC)
noncomputable def ctA:Code:=seqL (seqR (seqR ctC))
noncomputable def ct2:Code:=seqL ctA
noncomputable def ctL:Code:=inB (inB (seqR ctA))
noncomputable def ctB:Code:=seqL (seqR (seqR (seqR ctC)))
noncomputable def ct7:Code:=seqL ctB
noncomputable def ctM:Code:=inB (inB (seqR ctB))
noncomputable def ctE:Code:=seqR (seqR (seqR (seqR ctC)))
theorem ctC_is:Tryz.f57.body=some (.seq ct0 (.seq ct1 (.seq (.seq ct2 (.block 0 (.loop ctL))) (.seq (.seq ct7 (.block 2 (.loop ctM))) ctE)))):=by kernel_rfl
theorem ctN:Tryz.f57.ntmps=45:=by kernel_rfl
abbrev nA:Nat:=4096
abbrev nB:Nat:=4096+2^180
abbrev nC:Nat:=4096+2*2^180
abbrev nD:Nat:=4096+3*2^180
def ctH(x:Mx)(m:Nat→Int)(b:Bool):Hp:=[(0,.row 112 (cells13 x)),(1,.row 57 [.val (.bool b)]),(nA,.row 121 [.ptr 0 0]),(nB,.row 38 (ints 6 fun _=>0)),(nC,.row 38 (ints 6 m))]
def ctS(t:Nat)(i:Int)(x:Mx)(m:Nat→Int)(b:Bool):St:=gSt 45 [(1,.ptr 1 0),(2,.ptr nA 0),(4,.ptr nB 0),(5,.ptr nC 0),(t,.val (.int .i64 i))] (ctH x m b) nD
abbrev ctK:List Nat:=[0,1,nA,nB,nC]
abbrev ctT(t:Nat):List Nat:=[1,2,4,5,t]
section
variable (o:Ops) (x:Mx) (m:Nat→Int) (b:Bool)
def ctS0(x:Mx)(b:Bool):St:=gSt 45 [(1,.ptr 1 0),(2,.ptr nA 0),(4,.ptr nB 0)] [(0,.row 112 (cells13 x)),(1,.row 57 [.val (.bool b)]),(nA,.row 121 [.ptr 0 0]),(nB,.row 38 (ints 6 fun _=>0))] nC
def ctS1(x:Mx)(b:Bool):St:=gSt 45 [(1,.ptr 1 0),(2,.ptr nA 0),(4,.ptr nB 0),(5,.ptr nC 0)] (ctH x (fun _=>0) b) nD
theorem cq0:gRun Tryz.prog {gam:=gamN o} 45 ct0 (startS 45 [.ptr 0 0,.ptr 1 0] [.row 112 (cells13 x),.row 57 [.val (.bool b)]]) [0,1,nA,nB] [1,2,4]=some (.normal,ctS0 x b):=by kernel_rfl
theorem cq1:gRun Tryz.prog {gam:=gamN o} 45 ct1 (ctS0 x b) ctK [1,2,4,5]=some (.normal,ctS1 x b):=by kernel_rfl
theorem cq2:gRun Tryz.prog {gam:=gamN o} 45 ct2 (ctS1 x b) ctK (ctT 9)=some (.normal,ctS 9 0 x (fun _=>0) b):=by kernel_rfl
theorem cqA_0:gCut Tryz.prog {gam:=gamN o} 45 ctL (ctS 9 0 x m b) nD ctK (ctT 9)=some (.normal,ctS 9 1 x (setR m 0 (meanO o b fun k=>x k 0).1) (meanO o b fun k=>x k 0).2):=by kernel_rfl
theorem cqA_1:gCut Tryz.prog {gam:=gamN o} 45 ctL (ctS 9 1 x m b) nD ctK (ctT 9)=some (.normal,ctS 9 2 x (setR m 1 (meanO o b fun k=>x k 1).1) (meanO o b fun k=>x k 1).2):=by kernel_rfl
theorem cqA_2:gCut Tryz.prog {gam:=gamN o} 45 ctL (ctS 9 2 x m b) nD ctK (ctT 9)=some (.normal,ctS 9 3 x (setR m 2 (meanO o b fun k=>x k 2).1) (meanO o b fun k=>x k 2).2):=by kernel_rfl
theorem cqA_3:gCut Tryz.prog {gam:=gamN o} 45 ctL (ctS 9 3 x m b) nD ctK (ctT 9)=some (.normal,ctS 9 4 x (setR m 3 (meanO o b fun k=>x k 3).1) (meanO o b fun k=>x k 3).2):=by kernel_rfl
theorem cqA_4:gCut Tryz.prog {gam:=gamN o} 45 ctL (ctS 9 4 x m b) nD ctK (ctT 9)=some (.normal,ctS 9 5 x (setR m 4 (meanO o b fun k=>x k 4).1) (meanO o b fun k=>x k 4).2):=by kernel_rfl
theorem cqA_5:gCut Tryz.prog {gam:=gamN o} 45 ctL (ctS 9 5 x m b) nD ctK (ctT 9)=some (.normal,ctS 9 6 x (setR m 5 (meanO o b fun k=>x k 5).1) (meanO o b fun k=>x k 5).2):=by kernel_rfl
theorem cqA_6:gCut Tryz.prog {gam:=gamN o} 45 ctL (ctS 9 6 x m b) nD ctK (ctT 9)=some (.exit 0,ctS 9 6 x m b):=by kernel_rfl
theorem cq7:gCut Tryz.prog {gam:=gamN o} 45 ct7 (ctS 9 6 x m b) nD ctK (ctT 18)=some (.normal,ctS 18 0 x m b):=by kernel_rfl
theorem cqM_0:gCut Tryz.prog {gam:=gamN o} 45 ctM (ctS 18 0 x m b) nD ctK (ctT 18)=some (.normal,ctS 18 1 (subRow o m 0 0 6 (x,b)).1 m (subRow o m 0 0 6 (x,b)).2):=by kernel_rfl
theorem cqM_1:gCut Tryz.prog {gam:=gamN o} 45 ctM (ctS 18 1 x m b) nD ctK (ctT 18)=some (.normal,ctS 18 2 (subRow o m 1 0 6 (x,b)).1 m (subRow o m 1 0 6 (x,b)).2):=by kernel_rfl
theorem cqM_2:gCut Tryz.prog {gam:=gamN o} 45 ctM (ctS 18 2 x m b) nD ctK (ctT 18)=some (.normal,ctS 18 3 (subRow o m 2 0 6 (x,b)).1 m (subRow o m 2 0 6 (x,b)).2):=by kernel_rfl
theorem cqM_3:gCut Tryz.prog {gam:=gamN o} 45 ctM (ctS 18 3 x m b) nD ctK (ctT 18)=some (.normal,ctS 18 4 (subRow o m 3 0 6 (x,b)).1 m (subRow o m 3 0 6 (x,b)).2):=by kernel_rfl
theorem cqM_4:gCut Tryz.prog {gam:=gamN o} 45 ctM (ctS 18 4 x m b) nD ctK (ctT 18)=some (.normal,ctS 18 5 (subRow o m 4 0 6 (x,b)).1 m (subRow o m 4 0 6 (x,b)).2):=by kernel_rfl
theorem cqM_5:gCut Tryz.prog {gam:=gamN o} 45 ctM (ctS 18 5 x m b) nD ctK (ctT 18)=some (.normal,ctS 18 6 (subRow o m 5 0 6 (x,b)).1 m (subRow o m 5 0 6 (x,b)).2):=by kernel_rfl
theorem cqM_6:gCut Tryz.prog {gam:=gamN o} 45 ctM (ctS 18 6 x m b) nD ctK (ctT 18)=some (.normal,ctS 18 7 (subRow o m 6 0 6 (x,b)).1 m (subRow o m 6 0 6 (x,b)).2):=by kernel_rfl
theorem cqM_7:gCut Tryz.prog {gam:=gamN o} 45 ctM (ctS 18 7 x m b) nD ctK (ctT 18)=some (.normal,ctS 18 8 (subRow o m 7 0 6 (x,b)).1 m (subRow o m 7 0 6 (x,b)).2):=by kernel_rfl
theorem cqM_8:gCut Tryz.prog {gam:=gamN o} 45 ctM (ctS 18 8 x m b) nD ctK (ctT 18)=some (.normal,ctS 18 9 (subRow o m 8 0 6 (x,b)).1 m (subRow o m 8 0 6 (x,b)).2):=by kernel_rfl
theorem cqM_9:gCut Tryz.prog {gam:=gamN o} 45 ctM (ctS 18 9 x m b) nD ctK (ctT 18)=some (.normal,ctS 18 10 (subRow o m 9 0 6 (x,b)).1 m (subRow o m 9 0 6 (x,b)).2):=by kernel_rfl
theorem cqM_10:gCut Tryz.prog {gam:=gamN o} 45 ctM (ctS 18 10 x m b) nD ctK (ctT 18)=some (.normal,ctS 18 11 (subRow o m 10 0 6 (x,b)).1 m (subRow o m 10 0 6 (x,b)).2):=by kernel_rfl
theorem cqM_11:gCut Tryz.prog {gam:=gamN o} 45 ctM (ctS 18 11 x m b) nD ctK (ctT 18)=some (.normal,ctS 18 12 (subRow o m 11 0 6 (x,b)).1 m (subRow o m 11 0 6 (x,b)).2):=by kernel_rfl
theorem cqM_12:gCut Tryz.prog {gam:=gamN o} 45 ctM (ctS 18 12 x m b) nD ctK (ctT 18)=some (.normal,ctS 18 13 (subRow o m 12 0 6 (x,b)).1 m (subRow o m 12 0 6 (x,b)).2):=by kernel_rfl
theorem cqM_13:gCut Tryz.prog {gam:=gamN o} 45 ctM (ctS 18 13 x m b) nD ctK (ctT 18)=some (.exit 2,ctS 18 13 x m b):=by kernel_rfl
def ctF(x:Mx)(m:Nat→Int)(b:Bool):St:=gSt 45 [(4,.ptr nB 0)] [(0,.row 112 (cells13 x)),(1,.row 57 [.val (.bool b)]),(nB,.row 38 (ints 6 m))] nD
theorem cqE:gRun Tryz.prog {gam:=gamN o} 45 ctE (ctS 18 13 x m b) [0,1,nB] [4]=some (.ret,ctF x m b):=by kernel_rfl
theorem cqR:resA Tryz.prog (ctF x m b) Tryz.f57.results.toList=some [.val (Cod.enc (R6.of m))]:=by kernel_rfl
theorem cqc9(i:Int):okClean nD (ctS 9 i x m b)=true:=by kernel_rfl
theorem cqc18(i:Int):okClean nD (ctS 18 i x m b)=true:=by kernel_rfl
end
def ctPA(o:Ops)(x:Mx)(i:Nat)(z:(Nat→Int)×Bool):(Nat→Int)×Bool:=(setR z.1 i (meanO o z.2 fun k=>x k i).1,(meanO o z.2 fun k=>x k i).2)
def ctPM(o:Ops)(m:Nat→Int)(k:Nat)(z:Mx×Bool):Mx×Bool:=subRow o m k 0 6 z
def centerO(o:Ops)(b:Bool)(x:Mx):(Mx×(Nat→Int))×Bool :=
 let m:=iterF (ctPA o x) 0 6 (fun _=>0,b)
 let y:=iterF (ctPM o m.1) 0 13 (x,m.2)
 ((y.1,m.1),y.2)
theorem ct_lo9(x:Mx)(m:Nat→Int)(b:Bool)(i:Int):(ctS 9 i x m b).lo=nD:=rfl
theorem ct_lo18(x:Mx)(m:Nat→Int)(b:Bool)(i:Int):(ctS 18 i x m b).lo=nD:=rfl
theorem ct_hi(t t':Nat)(x x':Mx)(m m':Nat→Int)(b b':Bool)(i i':Int):(ctS t i x m b).hi=(ctS t' i' x' m' b').hi:=rfl
section
variable {o:Ops} (hG:GamOk Tryz.prog ({gam:=gamN o}:Env).gam) (x:Mx) (m:Nat→Int) (b:Bool)
include hG
theorem cuA_0:RunsTo Tryz.prog 45 ctL (ctS 9 0 x m b) .normal (ctS 9 1 x (setR m 0 (meanO o b fun k=>x k 0).1) (meanO o b fun k=>x k 0).2):=gCut_runs hG (cqA_0 o x m b) (ct_lo9 ..) (cqc9 ..) (ct_hi ..)
theorem cuA_1:RunsTo Tryz.prog 45 ctL (ctS 9 1 x m b) .normal (ctS 9 2 x (setR m 1 (meanO o b fun k=>x k 1).1) (meanO o b fun k=>x k 1).2):=gCut_runs hG (cqA_1 o x m b) (ct_lo9 ..) (cqc9 ..) (ct_hi ..)
theorem cuA_2:RunsTo Tryz.prog 45 ctL (ctS 9 2 x m b) .normal (ctS 9 3 x (setR m 2 (meanO o b fun k=>x k 2).1) (meanO o b fun k=>x k 2).2):=gCut_runs hG (cqA_2 o x m b) (ct_lo9 ..) (cqc9 ..) (ct_hi ..)
theorem cuA_3:RunsTo Tryz.prog 45 ctL (ctS 9 3 x m b) .normal (ctS 9 4 x (setR m 3 (meanO o b fun k=>x k 3).1) (meanO o b fun k=>x k 3).2):=gCut_runs hG (cqA_3 o x m b) (ct_lo9 ..) (cqc9 ..) (ct_hi ..)
theorem cuA_4:RunsTo Tryz.prog 45 ctL (ctS 9 4 x m b) .normal (ctS 9 5 x (setR m 4 (meanO o b fun k=>x k 4).1) (meanO o b fun k=>x k 4).2):=gCut_runs hG (cqA_4 o x m b) (ct_lo9 ..) (cqc9 ..) (ct_hi ..)
theorem cuA_5:RunsTo Tryz.prog 45 ctL (ctS 9 5 x m b) .normal (ctS 9 6 x (setR m 5 (meanO o b fun k=>x k 5).1) (meanO o b fun k=>x k 5).2):=gCut_runs hG (cqA_5 o x m b) (ct_lo9 ..) (cqc9 ..) (ct_hi ..)
theorem cuA_6:RunsTo Tryz.prog 45 ctL (ctS 9 6 x m b) (.exit 0) (ctS 9 6 x m b):=gCut_runs hG (cqA_6 o x m b) (ct_lo9 ..) (cqc9 ..) (ct_hi ..)
theorem cuM_0:RunsTo Tryz.prog 45 ctM (ctS 18 0 x m b) .normal (ctS 18 1 (subRow o m 0 0 6 (x,b)).1 m (subRow o m 0 0 6 (x,b)).2):=gCut_runs hG (cqM_0 o x m b) (ct_lo18 ..) (cqc18 ..) (ct_hi ..)
theorem cuM_1:RunsTo Tryz.prog 45 ctM (ctS 18 1 x m b) .normal (ctS 18 2 (subRow o m 1 0 6 (x,b)).1 m (subRow o m 1 0 6 (x,b)).2):=gCut_runs hG (cqM_1 o x m b) (ct_lo18 ..) (cqc18 ..) (ct_hi ..)
theorem cuM_2:RunsTo Tryz.prog 45 ctM (ctS 18 2 x m b) .normal (ctS 18 3 (subRow o m 2 0 6 (x,b)).1 m (subRow o m 2 0 6 (x,b)).2):=gCut_runs hG (cqM_2 o x m b) (ct_lo18 ..) (cqc18 ..) (ct_hi ..)
theorem cuM_3:RunsTo Tryz.prog 45 ctM (ctS 18 3 x m b) .normal (ctS 18 4 (subRow o m 3 0 6 (x,b)).1 m (subRow o m 3 0 6 (x,b)).2):=gCut_runs hG (cqM_3 o x m b) (ct_lo18 ..) (cqc18 ..) (ct_hi ..)
theorem cuM_4:RunsTo Tryz.prog 45 ctM (ctS 18 4 x m b) .normal (ctS 18 5 (subRow o m 4 0 6 (x,b)).1 m (subRow o m 4 0 6 (x,b)).2):=gCut_runs hG (cqM_4 o x m b) (ct_lo18 ..) (cqc18 ..) (ct_hi ..)
theorem cuM_5:RunsTo Tryz.prog 45 ctM (ctS 18 5 x m b) .normal (ctS 18 6 (subRow o m 5 0 6 (x,b)).1 m (subRow o m 5 0 6 (x,b)).2):=gCut_runs hG (cqM_5 o x m b) (ct_lo18 ..) (cqc18 ..) (ct_hi ..)
theorem cuM_6:RunsTo Tryz.prog 45 ctM (ctS 18 6 x m b) .normal (ctS 18 7 (subRow o m 6 0 6 (x,b)).1 m (subRow o m 6 0 6 (x,b)).2):=gCut_runs hG (cqM_6 o x m b) (ct_lo18 ..) (cqc18 ..) (ct_hi ..)
theorem cuM_7:RunsTo Tryz.prog 45 ctM (ctS 18 7 x m b) .normal (ctS 18 8 (subRow o m 7 0 6 (x,b)).1 m (subRow o m 7 0 6 (x,b)).2):=gCut_runs hG (cqM_7 o x m b) (ct_lo18 ..) (cqc18 ..) (ct_hi ..)
theorem cuM_8:RunsTo Tryz.prog 45 ctM (ctS 18 8 x m b) .normal (ctS 18 9 (subRow o m 8 0 6 (x,b)).1 m (subRow o m 8 0 6 (x,b)).2):=gCut_runs hG (cqM_8 o x m b) (ct_lo18 ..) (cqc18 ..) (ct_hi ..)
theorem cuM_9:RunsTo Tryz.prog 45 ctM (ctS 18 9 x m b) .normal (ctS 18 10 (subRow o m 9 0 6 (x,b)).1 m (subRow o m 9 0 6 (x,b)).2):=gCut_runs hG (cqM_9 o x m b) (ct_lo18 ..) (cqc18 ..) (ct_hi ..)
theorem cuM_10:RunsTo Tryz.prog 45 ctM (ctS 18 10 x m b) .normal (ctS 18 11 (subRow o m 10 0 6 (x,b)).1 m (subRow o m 10 0 6 (x,b)).2):=gCut_runs hG (cqM_10 o x m b) (ct_lo18 ..) (cqc18 ..) (ct_hi ..)
theorem cuM_11:RunsTo Tryz.prog 45 ctM (ctS 18 11 x m b) .normal (ctS 18 12 (subRow o m 11 0 6 (x,b)).1 m (subRow o m 11 0 6 (x,b)).2):=gCut_runs hG (cqM_11 o x m b) (ct_lo18 ..) (cqc18 ..) (ct_hi ..)
theorem cuM_12:RunsTo Tryz.prog 45 ctM (ctS 18 12 x m b) .normal (ctS 18 13 (subRow o m 12 0 6 (x,b)).1 m (subRow o m 12 0 6 (x,b)).2):=gCut_runs hG (cqM_12 o x m b) (ct_lo18 ..) (cqc18 ..) (ct_hi ..)
theorem cuM_13:RunsTo Tryz.prog 45 ctM (ctS 18 13 x m b) (.exit 2) (ctS 18 13 x m b):=gCut_runs hG (cqM_13 o x m b) (ct_lo18 ..) (cqc18 ..) (ct_hi ..)
theorem center_A:RunsTo Tryz.prog 45 (.block 0 (.loop ctL)) (ctS 9 0 x m b) .normal (ctS 9 6 x (iterF (ctPA o x) 0 6 (m,b)).1 (iterF (ctPA o x) 0 6 (m,b)).2) :=
 RunsTo.rounds (P:=Tryz.prog) (N:=45) (c:=ctL) (id:=0) 6 (fun i z=>ctS 9 i x z.1 z.2) (fun z=>ctS 9 6 x z.1 z.2) (ctPA o x)
  (fun i z hi=>match i,hi with
   | 0,_=>cuA_0 hG x z.1 z.2
   | 1,_=>cuA_1 hG x z.1 z.2
   | 2,_=>cuA_2 hG x z.1 z.2
   | 3,_=>cuA_3 hG x z.1 z.2
   | 4,_=>cuA_4 hG x z.1 z.2
   | 5,_=>cuA_5 hG x z.1 z.2
   | n+6,h=>absurd h (by omega))
  (fun z=>cuA_6 hG x z.1 z.2) (m,b)
theorem center_M:RunsTo Tryz.prog 45 (.block 2 (.loop ctM)) (ctS 18 0 x m b) .normal (ctS 18 13 (iterF (ctPM o m) 0 13 (x,b)).1 m (iterF (ctPM o m) 0 13 (x,b)).2) :=
 RunsTo.rounds (P:=Tryz.prog) (N:=45) (c:=ctM) (id:=2) 13 (fun k z=>ctS 18 k z.1 m z.2) (fun z=>ctS 18 13 z.1 m z.2) (ctPM o m)
  (fun k z hk=>match k,hk with
   | 0,_=>cuM_0 hG z.1 m z.2
   | 1,_=>cuM_1 hG z.1 m z.2
   | 2,_=>cuM_2 hG z.1 m z.2
   | 3,_=>cuM_3 hG z.1 m z.2
   | 4,_=>cuM_4 hG z.1 m z.2
   | 5,_=>cuM_5 hG z.1 m z.2
   | 6,_=>cuM_6 hG z.1 m z.2
   | 7,_=>cuM_7 hG z.1 m z.2
   | 8,_=>cuM_8 hG z.1 m z.2
   | 9,_=>cuM_9 hG z.1 m z.2
   | 10,_=>cuM_10 hG z.1 m z.2
   | 11,_=>cuM_11 hG z.1 m z.2
   | 12,_=>cuM_12 hG z.1 m z.2
   | n+13,h=>absurd h (by omega))
  (fun z=>cuM_13 hG z.1 m z.2) (x,b)
theorem center_runs:RunsTo Tryz.prog 45 ctC (startS 45 [.ptr 0 0,.ptr 1 0] [.row 112 (cells13 x),.row 57 [.val (.bool b)]]) .ret (ctF (centerO o b x).1.1 (centerO o b x).1.2 (centerO o b x).2):=by
 have hc:ctC=.seq ct0 (.seq ct1 (.seq (.seq ct2 (.block 0 (.loop ctL))) (.seq (.seq ct7 (.block 2 (.loop ctM))) ctE))):=by
  unfold ctC
  rw[ctC_is]
  rfl
 rw[hc]
 have hA:=center_A hG x (fun _=>0) b
 generalize hm:iterF (ctPA o x) 0 6 (fun _=>0,b)=m at hA
 have hM:=center_M hG x m.1 m.2
 have hx:centerO o b x=(((iterF (ctPM o m.1) 0 13 (x,m.2)).1,m.1),(iterF (ctPM o m.1) 0 13 (x,m.2)).2):=by unfold centerO;rw[hm]
 rw[hx]
 generalize iterF (ctPM o m.1) 0 13 (x,m.2)=y at hM
 have h2:=gRun_runs hG (cq2 o x b)
 have h7:=gCut_runs hG (cq7 o x m.1 m.2) (ct_lo9 ..) (cqc18 ..) (ct_hi ..)
 have hEnd:=gRun_runs hG (cqE o y.1 m.1 y.2)
 exact (gRun_runs hG (cq0 o x b)).seq ((gRun_runs hG (cq1 o x b)).seq ((h2.seq hA).seq ((h7.seq hM).seq hEnd)))
end
theorem f57_is:Tryz.prog.funcs[57]?=some Tryz.f57:=by kernel_rfl
end Go.Ab
