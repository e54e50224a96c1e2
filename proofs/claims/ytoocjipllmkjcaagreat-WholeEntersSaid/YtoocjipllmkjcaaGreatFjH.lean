/- A part of the proof of 'CraftHolds': lemmas, no statement of their own; no condition. -/
import Derived.Test.YtoocjipllmkjcaaGreatFjF
namespace Go.Ab
open Go Go.Proofs
section
variable (F:GOps) (b:Bool) (g g':Gs) (sky body:P2) (x z:X13) (Z:Mx) (m y u:R6) (s c l:M6) (Y:Nat→Int) (chi:Int) (k T p:Mx) (ok:Bool) (i j:Int)
theorem wq35:gRun Tryz.prog (eE F) 248 w35 (wS25 g c y l chi b) [0,nA,nD,nI,nJ,nK,nL,nM,nN] [0,5,8,21,22,24,25,28,29,30]=some (.normal,wS35 g c y l chi mx0 mx0 mx0 b):=by kernel_rfl
theorem wq36:gRun Tryz.prog (eE F) 248 w36 (wS35 g c y l chi k T p b) [0,nA,nD,nI,nJ,nK,nL,nM,nN] [0,5,8,21,22,24,25,28,29,30,151]=some (.normal,wSF 0 g c y l chi k T p b):=by kernel_rfl
theorem V5r:gCut Tryz.prog (eE F) 248 wF (wSF 0 g c y l chi k T p b) nO [0,nA,nD,nI,nJ,nK,nL,nM,nN] [0,5,8,21,22,24,25,28,29,30,151]=some (.normal,wSF 1 g c y l chi (setX k 0 (F.so b (l,c.row 0,6,())).1) T p (F.so b (l,c.row 0,6,())).2):=by kernel_rfl
theorem V5t:gCut Tryz.prog (eE F) 248 wF (wSF 1 g c y l chi k T p b) nO [0,nA,nD,nI,nJ,nK,nL,nM,nN] [0,5,8,21,22,24,25,28,29,30,151]=some (.normal,wSF 2 g c y l chi (setX k 1 (F.so b (l,c.row 1,6,())).1) T p (F.so b (l,c.row 1,6,())).2):=by kernel_rfl
theorem V5u:gCut Tryz.prog (eE F) 248 wF (wSF 2 g c y l chi k T p b) nO [0,nA,nD,nI,nJ,nK,nL,nM,nN] [0,5,8,21,22,24,25,28,29,30,151]=some (.normal,wSF 3 g c y l chi (setX k 2 (F.so b (l,c.row 2,6,())).1) T p (F.so b (l,c.row 2,6,())).2):=by kernel_rfl
theorem V5v:gCut Tryz.prog (eE F) 248 wF (wSF 3 g c y l chi k T p b) nO [0,nA,nD,nI,nJ,nK,nL,nM,nN] [0,5,8,21,22,24,25,28,29,30,151]=some (.normal,wSF 4 g c y l chi (setX k 3 (F.so b (l,c.row 3,6,())).1) T p (F.so b (l,c.row 3,6,())).2):=by kernel_rfl
theorem V5w:gCut Tryz.prog (eE F) 248 wF (wSF 4 g c y l chi k T p b) nO [0,nA,nD,nI,nJ,nK,nL,nM,nN] [0,5,8,21,22,24,25,28,29,30,151]=some (.normal,wSF 5 g c y l chi (setX k 4 (F.so b (l,c.row 4,6,())).1) T p (F.so b (l,c.row 4,6,())).2):=by kernel_rfl
theorem V5x:gCut Tryz.prog (eE F) 248 wF (wSF 5 g c y l chi k T p b) nO [0,nA,nD,nI,nJ,nK,nL,nM,nN] [0,5,8,21,22,24,25,28,29,30,151]=some (.normal,wSF 6 g c y l chi (setX k 5 (F.so b (l,c.row 5,6,())).1) T p (F.so b (l,c.row 5,6,())).2):=by kernel_rfl
theorem V5y:gCut Tryz.prog (eE F) 248 wF (wSF 6 g c y l chi k T p b) nO [0,nA,nD,nI,nJ,nK,nL,nM,nN] [0,5,8,21,22,24,25,28,29,30]=some (.exit 8,wS35 g c y l chi k T p b):=by kernel_rfl
theorem wq41:gRun Tryz.prog (eE F) 248 w41 (wS35 g c y l chi k T p b) [0,nA,nD,nI,nJ,nK,nL,nM,nN] [0,5,8,21,22,24,25,28,29,30,163]=some (.normal,wSG 0 g c y l chi k T p b):=by kernel_rfl
theorem T4n:gRun Tryz.prog (eE F) 248 wGa (wSG 0 g c y l chi k T p b) [0,nA,nD,nI,nJ,nK,nL,nM,nN] [0,5,8,21,22,24,25,28,29,30,163,164]=some (.normal,wSg 0 g c y l chi k T p b):=by kernel_rfl
theorem T4v:gRun Tryz.prog (eE F) 248 wGb (wSg 0 g c y l chi k T p b) [0,nA,nD,nI,nJ,nK,nL,nM,nN] [0,5,8,21,22,24,25,28,29,30,163]=some (.normal,wSG 0 g c y l chi k T p b):=by kernel_rfl
theorem U4b:gRun Tryz.prog (eE F) 248 w43 (wSG 0 g c y l chi k T p b) [0,nA,nD,nI,nJ,nK,nL,nM,nN] [0,5,8,21,22,24,25,28,29,30,32,163]=some (.normal,wSx 0 g c y l chi k T p b):=by kernel_rfl
theorem U4j:gRun Tryz.prog (eE F) 248 w44 (wSx 0 g c y l chi k T p b) [0,nA,nD,nI,nJ,nK,nL,nM,nN] [0,5,8,21,22,24,25,28,29,30,32,163,166]=some (.normal,wSJ 0 0 g c y l chi k T p b):=by kernel_rfl
theorem U4r:gRun Tryz.prog (eE F) 248 w55 (wSG 0 g c y l chi k T p b) [0,nA,nD,nI,nJ,nK,nL,nM,nN] [0,5,8,21,22,24,25,28,29,30,163]=some (.normal,wSG 1 g c y l chi k T p b):=by kernel_rfl
theorem T4p:gRun Tryz.prog (eE F) 248 wGa (wSG 1 g c y l chi k T p b) [0,nA,nD,nI,nJ,nK,nL,nM,nN] [0,5,8,21,22,24,25,28,29,30,163,164]=some (.normal,wSg 1 g c y l chi k T p b):=by kernel_rfl
theorem T4w:gRun Tryz.prog (eE F) 248 wGb (wSg 1 g c y l chi k T p b) [0,nA,nD,nI,nJ,nK,nL,nM,nN] [0,5,8,21,22,24,25,28,29,30,163]=some (.normal,wSG 1 g c y l chi k T p b):=by kernel_rfl
theorem U4c:gRun Tryz.prog (eE F) 248 w43 (wSG 1 g c y l chi k T p b) [0,nA,nD,nI,nJ,nK,nL,nM,nN] [0,5,8,21,22,24,25,28,29,30,32,163]=some (.normal,wSx 1 g c y l chi k T p b):=by kernel_rfl
theorem U4k:gRun Tryz.prog (eE F) 248 w44 (wSx 1 g c y l chi k T p b) [0,nA,nD,nI,nJ,nK,nL,nM,nN] [0,5,8,21,22,24,25,28,29,30,32,163,166]=some (.normal,wSJ 1 0 g c y l chi k T p b):=by kernel_rfl
theorem U4t:gRun Tryz.prog (eE F) 248 w55 (wSG 1 g c y l chi k T p b) [0,nA,nD,nI,nJ,nK,nL,nM,nN] [0,5,8,21,22,24,25,28,29,30,163]=some (.normal,wSG 2 g c y l chi k T p b):=by kernel_rfl
theorem T4q:gRun Tryz.prog (eE F) 248 wGa (wSG 2 g c y l chi k T p b) [0,nA,nD,nI,nJ,nK,nL,nM,nN] [0,5,8,21,22,24,25,28,29,30,163,164]=some (.normal,wSg 2 g c y l chi k T p b):=by kernel_rfl
theorem T4x:gRun Tryz.prog (eE F) 248 wGb (wSg 2 g c y l chi k T p b) [0,nA,nD,nI,nJ,nK,nL,nM,nN] [0,5,8,21,22,24,25,28,29,30,163]=some (.normal,wSG 2 g c y l chi k T p b):=by kernel_rfl
theorem U4d:gRun Tryz.prog (eE F) 248 w43 (wSG 2 g c y l chi k T p b) [0,nA,nD,nI,nJ,nK,nL,nM,nN] [0,5,8,21,22,24,25,28,29,30,32,163]=some (.normal,wSx 2 g c y l chi k T p b):=by kernel_rfl
theorem U4m:gRun Tryz.prog (eE F) 248 w44 (wSx 2 g c y l chi k T p b) [0,nA,nD,nI,nJ,nK,nL,nM,nN] [0,5,8,21,22,24,25,28,29,30,32,163,166]=some (.normal,wSJ 2 0 g c y l chi k T p b):=by kernel_rfl
theorem U4u:gRun Tryz.prog (eE F) 248 w55 (wSG 2 g c y l chi k T p b) [0,nA,nD,nI,nJ,nK,nL,nM,nN] [0,5,8,21,22,24,25,28,29,30,163]=some (.normal,wSG 3 g c y l chi k T p b):=by kernel_rfl
theorem T4r:gRun Tryz.prog (eE F) 248 wGa (wSG 3 g c y l chi k T p b) [0,nA,nD,nI,nJ,nK,nL,nM,nN] [0,5,8,21,22,24,25,28,29,30,163,164]=some (.normal,wSg 3 g c y l chi k T p b):=by kernel_rfl
theorem T4y:gRun Tryz.prog (eE F) 248 wGb (wSg 3 g c y l chi k T p b) [0,nA,nD,nI,nJ,nK,nL,nM,nN] [0,5,8,21,22,24,25,28,29,30,163]=some (.normal,wSG 3 g c y l chi k T p b):=by kernel_rfl
theorem U4e:gRun Tryz.prog (eE F) 248 w43 (wSG 3 g c y l chi k T p b) [0,nA,nD,nI,nJ,nK,nL,nM,nN] [0,5,8,21,22,24,25,28,29,30,32,163]=some (.normal,wSx 3 g c y l chi k T p b):=by kernel_rfl
theorem U4n:gRun Tryz.prog (eE F) 248 w44 (wSx 3 g c y l chi k T p b) [0,nA,nD,nI,nJ,nK,nL,nM,nN] [0,5,8,21,22,24,25,28,29,30,32,163,166]=some (.normal,wSJ 3 0 g c y l chi k T p b):=by kernel_rfl
theorem U4v:gRun Tryz.prog (eE F) 248 w55 (wSG 3 g c y l chi k T p b) [0,nA,nD,nI,nJ,nK,nL,nM,nN] [0,5,8,21,22,24,25,28,29,30,163]=some (.normal,wSG 4 g c y l chi k T p b):=by kernel_rfl
theorem T4t:gRun Tryz.prog (eE F) 248 wGa (wSG 4 g c y l chi k T p b) [0,nA,nD,nI,nJ,nK,nL,nM,nN] [0,5,8,21,22,24,25,28,29,30,163,164]=some (.normal,wSg 4 g c y l chi k T p b):=by kernel_rfl
theorem T4z:gRun Tryz.prog (eE F) 248 wGb (wSg 4 g c y l chi k T p b) [0,nA,nD,nI,nJ,nK,nL,nM,nN] [0,5,8,21,22,24,25,28,29,30,163]=some (.normal,wSG 4 g c y l chi k T p b):=by kernel_rfl
theorem U4g:gRun Tryz.prog (eE F) 248 w43 (wSG 4 g c y l chi k T p b) [0,nA,nD,nI,nJ,nK,nL,nM,nN] [0,5,8,21,22,24,25,28,29,30,32,163]=some (.normal,wSx 4 g c y l chi k T p b):=by kernel_rfl
theorem U4p:gRun Tryz.prog (eE F) 248 w44 (wSx 4 g c y l chi k T p b) [0,nA,nD,nI,nJ,nK,nL,nM,nN] [0,5,8,21,22,24,25,28,29,30,32,163,166]=some (.normal,wSJ 4 0 g c y l chi k T p b):=by kernel_rfl
theorem U4w:gRun Tryz.prog (eE F) 248 w55 (wSG 4 g c y l chi k T p b) [0,nA,nD,nI,nJ,nK,nL,nM,nN] [0,5,8,21,22,24,25,28,29,30,163]=some (.normal,wSG 5 g c y l chi k T p b):=by kernel_rfl
theorem T4u:gRun Tryz.prog (eE F) 248 wGa (wSG 5 g c y l chi k T p b) [0,nA,nD,nI,nJ,nK,nL,nM,nN] [0,5,8,21,22,24,25,28,29,30,163,164]=some (.normal,wSg 5 g c y l chi k T p b):=by kernel_rfl
theorem U4a:gRun Tryz.prog (eE F) 248 wGb (wSg 5 g c y l chi k T p b) [0,nA,nD,nI,nJ,nK,nL,nM,nN] [0,5,8,21,22,24,25,28,29,30,163]=some (.normal,wSG 5 g c y l chi k T p b):=by kernel_rfl
theorem U4h:gRun Tryz.prog (eE F) 248 w43 (wSG 5 g c y l chi k T p b) [0,nA,nD,nI,nJ,nK,nL,nM,nN] [0,5,8,21,22,24,25,28,29,30,32,163]=some (.normal,wSx 5 g c y l chi k T p b):=by kernel_rfl
theorem U4q:gRun Tryz.prog (eE F) 248 w44 (wSx 5 g c y l chi k T p b) [0,nA,nD,nI,nJ,nK,nL,nM,nN] [0,5,8,21,22,24,25,28,29,30,32,163,166]=some (.normal,wSJ 5 0 g c y l chi k T p b):=by kernel_rfl
theorem U4x:gRun Tryz.prog (eE F) 248 w55 (wSG 5 g c y l chi k T p b) [0,nA,nD,nI,nJ,nK,nL,nM,nN] [0,5,8,21,22,24,25,28,29,30,163]=some (.normal,wSG 6 g c y l chi k T p b):=by kernel_rfl
theorem V5z:gCut Tryz.prog (eE F) 248 wG (wSG 6 g c y l chi k T p b) nO [0,nA,nD,nI,nJ,nK,nL,nM,nN] [0,5,8,21,22,24,25,28,29,30]=some (.exit 10,wS35 g c y l chi k T p b):=by kernel_rfl
theorem wq56:gRun Tryz.prog (eE F) 248 w56 (wS35 g c y l chi k T p b) [0,nA,nD,nI,nJ,nK,nL,nM,nN] [0,5,8,21,22,24,25,28,29,30,203]=some (.normal,wSH 0 g c y l chi k T p b):=by kernel_rfl
theorem W5a:gCut Tryz.prog (eE F) 248 wH (wSH 0 g c y l chi k T p b) nO [0,nA,nD,nI,nJ,nK,nL,nM,nN] [0,5,8,21,22,24,25,28,29,30,203]=some (.normal,wSH 1 g c y l chi k T (meH F.o T 0 0 6 (p,b)).1 (meH F.o T 0 0 6 (p,b)).2):=by kernel_rfl
theorem W5b:gCut Tryz.prog (eE F) 248 wH (wSH 1 g c y l chi k T p b) nO [0,nA,nD,nI,nJ,nK,nL,nM,nN] [0,5,8,21,22,24,25,28,29,30,203]=some (.normal,wSH 2 g c y l chi k T (meH F.o T 1 0 6 (p,b)).1 (meH F.o T 1 0 6 (p,b)).2):=by kernel_rfl
theorem W5c:gCut Tryz.prog (eE F) 248 wH (wSH 2 g c y l chi k T p b) nO [0,nA,nD,nI,nJ,nK,nL,nM,nN] [0,5,8,21,22,24,25,28,29,30,203]=some (.normal,wSH 3 g c y l chi k T (meH F.o T 2 0 6 (p,b)).1 (meH F.o T 2 0 6 (p,b)).2):=by kernel_rfl
theorem W5d:gCut Tryz.prog (eE F) 248 wH (wSH 3 g c y l chi k T p b) nO [0,nA,nD,nI,nJ,nK,nL,nM,nN] [0,5,8,21,22,24,25,28,29,30,203]=some (.normal,wSH 4 g c y l chi k T (meH F.o T 3 0 6 (p,b)).1 (meH F.o T 3 0 6 (p,b)).2):=by kernel_rfl
theorem W5e:gCut Tryz.prog (eE F) 248 wH (wSH 4 g c y l chi k T p b) nO [0,nA,nD,nI,nJ,nK,nL,nM,nN] [0,5,8,21,22,24,25,28,29,30,203]=some (.normal,wSH 5 g c y l chi k T (meH F.o T 4 0 6 (p,b)).1 (meH F.o T 4 0 6 (p,b)).2):=by kernel_rfl
theorem W5g:gCut Tryz.prog (eE F) 248 wH (wSH 5 g c y l chi k T p b) nO [0,nA,nD,nI,nJ,nK,nL,nM,nN] [0,5,8,21,22,24,25,28,29,30,203]=some (.normal,wSH 6 g c y l chi k T (meH F.o T 5 0 6 (p,b)).1 (meH F.o T 5 0 6 (p,b)).2):=by kernel_rfl
theorem W5h:gCut Tryz.prog (eE F) 248 wH (wSH 6 g c y l chi k T p b) nO [0,nA,nD,nI,nJ,nK,nL,nM,nN] [0,5,8,21,22,24,25,28,29,30]=some (.exit 16,wS35 g c y l chi k T p b):=by kernel_rfl
theorem wq65:gRun Tryz.prog (eE F) 248 w65 (wS35 g c y l chi k T p b) [0,nD,nO] [0,8,25,38,39]=some (.normal,wS65 chi (meZ F g y k p b).1.b (meZ F g y k p b).1.a (meZ F g y k p b).2):=by kernel_rfl
theorem wq66:gRun Tryz.prog (eE F) 248 w66 (wS65 chi ok g b) [0,nD,nO] [0,8,25,38,39]=bif !ok then some (.normal,wS65 0 ok g b) else some (.normal,{wS65 chi ok g b with lo:=nP}):=by kernel_rfl
theorem wq68:gRun Tryz.prog (eE F) 248 w68 (wS65 chi ok g b) [0,nD] [0,8,9,10]=some (.ret,wR2 g chi ok b):=by kernel_rfl
end
end Go.Ab
