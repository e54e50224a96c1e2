/- A part of the proof of 'CraftHolds': lemmas, no statement of their own; no condition. -/
import Derived.Test.YtoocjipllmkjcaaGreatFjF
namespace Go.Ab
open Go Go.Proofs
section
variable (F:GOps) (b:Bool) (g g':Gs) (sky body:P2) (x z:X13) (Z:Mx) (m y u:R6) (s c l:M6) (Y:Nat→Int) (chi:Int) (k T p:Mx) (ok:Bool) (i j:Int)
theorem U3d:gCut Tryz.prog (eE F) 248 wGL (wSJ 3 0 g c y l chi k T p b) nO [0,nA,nD,nI,nJ,nK,nL,nM,nN] [0,5,8,21,22,24,25,28,29,30,32,163,166]=some (.normal,wSJ 3 1 g c y l chi k (setM T 3 0 (meT F g.p.at k c.at 3 0 b).1) p (meT F g.p.at k c.at 3 0 b).2):=by kernel_rfl
theorem U3e:gCut Tryz.prog (eE F) 248 wGL (wSJ 3 1 g c y l chi k T p b) nO [0,nA,nD,nI,nJ,nK,nL,nM,nN] [0,5,8,21,22,24,25,28,29,30,32,163,166]=some (.normal,wSJ 3 2 g c y l chi k (setM T 3 1 (meT F g.p.at k c.at 3 1 b).1) p (meT F g.p.at k c.at 3 1 b).2):=by kernel_rfl
theorem U3g:gCut Tryz.prog (eE F) 248 wGL (wSJ 3 2 g c y l chi k T p b) nO [0,nA,nD,nI,nJ,nK,nL,nM,nN] [0,5,8,21,22,24,25,28,29,30,32,163,166]=some (.normal,wSJ 3 3 g c y l chi k (setM T 3 2 (meT F g.p.at k c.at 3 2 b).1) p (meT F g.p.at k c.at 3 2 b).2):=by kernel_rfl
theorem U3h:gCut Tryz.prog (eE F) 248 wGL (wSJ 3 3 g c y l chi k T p b) nO [0,nA,nD,nI,nJ,nK,nL,nM,nN] [0,5,8,21,22,24,25,28,29,30,32,163,166]=some (.normal,wSJ 3 4 g c y l chi k (setM T 3 3 (meT F g.p.at k c.at 3 3 b).1) p (meT F g.p.at k c.at 3 3 b).2):=by kernel_rfl
theorem U3j:gCut Tryz.prog (eE F) 248 wGL (wSJ 3 4 g c y l chi k T p b) nO [0,nA,nD,nI,nJ,nK,nL,nM,nN] [0,5,8,21,22,24,25,28,29,30,32,163,166]=some (.normal,wSJ 3 5 g c y l chi k (setM T 3 4 (meT F g.p.at k c.at 3 4 b).1) p (meT F g.p.at k c.at 3 4 b).2):=by kernel_rfl
theorem U3k:gCut Tryz.prog (eE F) 248 wGL (wSJ 3 5 g c y l chi k T p b) nO [0,nA,nD,nI,nJ,nK,nL,nM,nN] [0,5,8,21,22,24,25,28,29,30,32,163,166]=some (.normal,wSJ 3 6 g c y l chi k (setM T 3 5 (meT F g.p.at k c.at 3 5 b).1) p (meT F g.p.at k c.at 3 5 b).2):=by kernel_rfl
theorem U3m:gCut Tryz.prog (eE F) 248 wGL (wSJ 3 6 g c y l chi k T p b) nO [0,nA,nD,nI,nJ,nK,nL,nM,nN] [0,5,8,21,22,24,25,28,29,30,163]=some (.exit 12,wSG 3 g c y l chi k T p b):=by kernel_rfl
theorem U3n:gCut Tryz.prog (eE F) 248 wGL (wSJ 4 0 g c y l chi k T p b) nO [0,nA,nD,nI,nJ,nK,nL,nM,nN] [0,5,8,21,22,24,25,28,29,30,32,163,166]=some (.normal,wSJ 4 1 g c y l chi k (setM T 4 0 (meT F g.p.at k c.at 4 0 b).1) p (meT F g.p.at k c.at 4 0 b).2):=by kernel_rfl
theorem U3p:gCut Tryz.prog (eE F) 248 wGL (wSJ 4 1 g c y l chi k T p b) nO [0,nA,nD,nI,nJ,nK,nL,nM,nN] [0,5,8,21,22,24,25,28,29,30,32,163,166]=some (.normal,wSJ 4 2 g c y l chi k (setM T 4 1 (meT F g.p.at k c.at 4 1 b).1) p (meT F g.p.at k c.at 4 1 b).2):=by kernel_rfl
theorem U3q:gCut Tryz.prog (eE F) 248 wGL (wSJ 4 2 g c y l chi k T p b) nO [0,nA,nD,nI,nJ,nK,nL,nM,nN] [0,5,8,21,22,24,25,28,29,30,32,163,166]=some (.normal,wSJ 4 3 g c y l chi k (setM T 4 2 (meT F g.p.at k c.at 4 2 b).1) p (meT F g.p.at k c.at 4 2 b).2):=by kernel_rfl
theorem U3r:gCut Tryz.prog (eE F) 248 wGL (wSJ 4 3 g c y l chi k T p b) nO [0,nA,nD,nI,nJ,nK,nL,nM,nN] [0,5,8,21,22,24,25,28,29,30,32,163,166]=some (.normal,wSJ 4 4 g c y l chi k (setM T 4 3 (meT F g.p.at k c.at 4 3 b).1) p (meT F g.p.at k c.at 4 3 b).2):=by kernel_rfl
theorem U3t:gCut Tryz.prog (eE F) 248 wGL (wSJ 4 4 g c y l chi k T p b) nO [0,nA,nD,nI,nJ,nK,nL,nM,nN] [0,5,8,21,22,24,25,28,29,30,32,163,166]=some (.normal,wSJ 4 5 g c y l chi k (setM T 4 4 (meT F g.p.at k c.at 4 4 b).1) p (meT F g.p.at k c.at 4 4 b).2):=by kernel_rfl
theorem U3u:gCut Tryz.prog (eE F) 248 wGL (wSJ 4 5 g c y l chi k T p b) nO [0,nA,nD,nI,nJ,nK,nL,nM,nN] [0,5,8,21,22,24,25,28,29,30,32,163,166]=some (.normal,wSJ 4 6 g c y l chi k (setM T 4 5 (meT F g.p.at k c.at 4 5 b).1) p (meT F g.p.at k c.at 4 5 b).2):=by kernel_rfl
theorem U3v:gCut Tryz.prog (eE F) 248 wGL (wSJ 4 6 g c y l chi k T p b) nO [0,nA,nD,nI,nJ,nK,nL,nM,nN] [0,5,8,21,22,24,25,28,29,30,163]=some (.exit 12,wSG 4 g c y l chi k T p b):=by kernel_rfl
theorem U3w:gCut Tryz.prog (eE F) 248 wGL (wSJ 5 0 g c y l chi k T p b) nO [0,nA,nD,nI,nJ,nK,nL,nM,nN] [0,5,8,21,22,24,25,28,29,30,32,163,166]=some (.normal,wSJ 5 1 g c y l chi k (setM T 5 0 (meT F g.p.at k c.at 5 0 b).1) p (meT F g.p.at k c.at 5 0 b).2):=by kernel_rfl
theorem U3x:gCut Tryz.prog (eE F) 248 wGL (wSJ 5 1 g c y l chi k T p b) nO [0,nA,nD,nI,nJ,nK,nL,nM,nN] [0,5,8,21,22,24,25,28,29,30,32,163,166]=some (.normal,wSJ 5 2 g c y l chi k (setM T 5 1 (meT F g.p.at k c.at 5 1 b).1) p (meT F g.p.at k c.at 5 1 b).2):=by kernel_rfl
theorem U3y:gCut Tryz.prog (eE F) 248 wGL (wSJ 5 2 g c y l chi k T p b) nO [0,nA,nD,nI,nJ,nK,nL,nM,nN] [0,5,8,21,22,24,25,28,29,30,32,163,166]=some (.normal,wSJ 5 3 g c y l chi k (setM T 5 2 (meT F g.p.at k c.at 5 2 b).1) p (meT F g.p.at k c.at 5 2 b).2):=by kernel_rfl
theorem U3z:gCut Tryz.prog (eE F) 248 wGL (wSJ 5 3 g c y l chi k T p b) nO [0,nA,nD,nI,nJ,nK,nL,nM,nN] [0,5,8,21,22,24,25,28,29,30,32,163,166]=some (.normal,wSJ 5 4 g c y l chi k (setM T 5 3 (meT F g.p.at k c.at 5 3 b).1) p (meT F g.p.at k c.at 5 3 b).2):=by kernel_rfl
theorem V3a:gCut Tryz.prog (eE F) 248 wGL (wSJ 5 4 g c y l chi k T p b) nO [0,nA,nD,nI,nJ,nK,nL,nM,nN] [0,5,8,21,22,24,25,28,29,30,32,163,166]=some (.normal,wSJ 5 5 g c y l chi k (setM T 5 4 (meT F g.p.at k c.at 5 4 b).1) p (meT F g.p.at k c.at 5 4 b).2):=by kernel_rfl
theorem V3b:gCut Tryz.prog (eE F) 248 wGL (wSJ 5 5 g c y l chi k T p b) nO [0,nA,nD,nI,nJ,nK,nL,nM,nN] [0,5,8,21,22,24,25,28,29,30,32,163,166]=some (.normal,wSJ 5 6 g c y l chi k (setM T 5 5 (meT F g.p.at k c.at 5 5 b).1) p (meT F g.p.at k c.at 5 5 b).2):=by kernel_rfl
theorem V3c:gCut Tryz.prog (eE F) 248 wGL (wSJ 5 6 g c y l chi k T p b) nO [0,nA,nD,nI,nJ,nK,nL,nM,nN] [0,5,8,21,22,24,25,28,29,30,163]=some (.exit 12,wSG 5 g c y l chi k T p b):=by kernel_rfl
end
end Go.Ab
