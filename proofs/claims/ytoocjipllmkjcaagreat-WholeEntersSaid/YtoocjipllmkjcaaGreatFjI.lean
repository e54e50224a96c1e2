/- A part of the proof of 'CraftHolds': lemmas, no statement of their own; no condition. -/
import Derived.Test.YtoocjipllmkjcaaGreatFjF
namespace Go.Ab
open Go Go.Proofs
section
variable (F:GOps) (b:Bool) (g g':Gs) (sky body:P2) (x z:X13) (Z:Mx) (m y u:R6) (s c l:M6) (Y:Nat→Int) (chi:Int) (k T p:Mx) (ok:Bool) (i j:Int)
theorem T3d:gCut Tryz.prog (eE F) 248 wGL (wSJ 0 0 g c y l chi k T p b) nO [0,nA,nD,nI,nJ,nK,nL,nM,nN] [0,5,8,21,22,24,25,28,29,30,32,163,166]=some (.normal,wSJ 0 1 g c y l chi k (setM T 0 0 (meT F g.p.at k c.at 0 0 b).1) p (meT F g.p.at k c.at 0 0 b).2):=by kernel_rfl
theorem T3e:gCut Tryz.prog (eE F) 248 wGL (wSJ 0 1 g c y l chi k T p b) nO [0,nA,nD,nI,nJ,nK,nL,nM,nN] [0,5,8,21,22,24,25,28,29,30,32,163,166]=some (.normal,wSJ 0 2 g c y l chi k (setM T 0 1 (meT F g.p.at k c.at 0 1 b).1) p (meT F g.p.at k c.at 0 1 b).2):=by kernel_rfl
theorem T3g:gCut Tryz.prog (eE F) 248 wGL (wSJ 0 2 g c y l chi k T p b) nO [0,nA,nD,nI,nJ,nK,nL,nM,nN] [0,5,8,21,22,24,25,28,29,30,32,163,166]=some (.normal,wSJ 0 3 g c y l chi k (setM T 0 2 (meT F g.p.at k c.at 0 2 b).1) p (meT F g.p.at k c.at 0 2 b).2):=by kernel_rfl
theorem T3h:gCut Tryz.prog (eE F) 248 wGL (wSJ 0 3 g c y l chi k T p b) nO [0,nA,nD,nI,nJ,nK,nL,nM,nN] [0,5,8,21,22,24,25,28,29,30,32,163,166]=some (.normal,wSJ 0 4 g c y l chi k (setM T 0 3 (meT F g.p.at k c.at 0 3 b).1) p (meT F g.p.at k c.at 0 3 b).2):=by kernel_rfl
theorem T3j:gCut Tryz.prog (eE F) 248 wGL (wSJ 0 4 g c y l chi k T p b) nO [0,nA,nD,nI,nJ,nK,nL,nM,nN] [0,5,8,21,22,24,25,28,29,30,32,163,166]=some (.normal,wSJ 0 5 g c y l chi k (setM T 0 4 (meT F g.p.at k c.at 0 4 b).1) p (meT F g.p.at k c.at 0 4 b).2):=by kernel_rfl
theorem T3k:gCut Tryz.prog (eE F) 248 wGL (wSJ 0 5 g c y l chi k T p b) nO [0,nA,nD,nI,nJ,nK,nL,nM,nN] [0,5,8,21,22,24,25,28,29,30,32,163,166]=some (.normal,wSJ 0 6 g c y l chi k (setM T 0 5 (meT F g.p.at k c.at 0 5 b).1) p (meT F g.p.at k c.at 0 5 b).2):=by kernel_rfl
theorem T3m:gCut Tryz.prog (eE F) 248 wGL (wSJ 0 6 g c y l chi k T p b) nO [0,nA,nD,nI,nJ,nK,nL,nM,nN] [0,5,8,21,22,24,25,28,29,30,163]=some (.exit 12,wSG 0 g c y l chi k T p b):=by kernel_rfl
theorem T3n:gCut Tryz.prog (eE F) 248 wGL (wSJ 1 0 g c y l chi k T p b) nO [0,nA,nD,nI,nJ,nK,nL,nM,nN] [0,5,8,21,22,24,25,28,29,30,32,163,166]=some (.normal,wSJ 1 1 g c y l chi k (setM T 1 0 (meT F g.p.at k c.at 1 0 b).1) p (meT F g.p.at k c.at 1 0 b).2):=by kernel_rfl
theorem T3p:gCut Tryz.prog (eE F) 248 wGL (wSJ 1 1 g c y l chi k T p b) nO [0,nA,nD,nI,nJ,nK,nL,nM,nN] [0,5,8,21,22,24,25,28,29,30,32,163,166]=some (.normal,wSJ 1 2 g c y l chi k (setM T 1 1 (meT F g.p.at k c.at 1 1 b).1) p (meT F g.p.at k c.at 1 1 b).2):=by kernel_rfl
theorem T3q:gCut Tryz.prog (eE F) 248 wGL (wSJ 1 2 g c y l chi k T p b) nO [0,nA,nD,nI,nJ,nK,nL,nM,nN] [0,5,8,21,22,24,25,28,29,30,32,163,166]=some (.normal,wSJ 1 3 g c y l chi k (setM T 1 2 (meT F g.p.at k c.at 1 2 b).1) p (meT F g.p.at k c.at 1 2 b).2):=by kernel_rfl
theorem T3r:gCut Tryz.prog (eE F) 248 wGL (wSJ 1 3 g c y l chi k T p b) nO [0,nA,nD,nI,nJ,nK,nL,nM,nN] [0,5,8,21,22,24,25,28,29,30,32,163,166]=some (.normal,wSJ 1 4 g c y l chi k (setM T 1 3 (meT F g.p.at k c.at 1 3 b).1) p (meT F g.p.at k c.at 1 3 b).2):=by kernel_rfl
theorem T3t:gCut Tryz.prog (eE F) 248 wGL (wSJ 1 4 g c y l chi k T p b) nO [0,nA,nD,nI,nJ,nK,nL,nM,nN] [0,5,8,21,22,24,25,28,29,30,32,163,166]=some (.normal,wSJ 1 5 g c y l chi k (setM T 1 4 (meT F g.p.at k c.at 1 4 b).1) p (meT F g.p.at k c.at 1 4 b).2):=by kernel_rfl
theorem T3u:gCut Tryz.prog (eE F) 248 wGL (wSJ 1 5 g c y l chi k T p b) nO [0,nA,nD,nI,nJ,nK,nL,nM,nN] [0,5,8,21,22,24,25,28,29,30,32,163,166]=some (.normal,wSJ 1 6 g c y l chi k (setM T 1 5 (meT F g.p.at k c.at 1 5 b).1) p (meT F g.p.at k c.at 1 5 b).2):=by kernel_rfl
theorem T3v:gCut Tryz.prog (eE F) 248 wGL (wSJ 1 6 g c y l chi k T p b) nO [0,nA,nD,nI,nJ,nK,nL,nM,nN] [0,5,8,21,22,24,25,28,29,30,163]=some (.exit 12,wSG 1 g c y l chi k T p b):=by kernel_rfl
theorem T3w:gCut Tryz.prog (eE F) 248 wGL (wSJ 2 0 g c y l chi k T p b) nO [0,nA,nD,nI,nJ,nK,nL,nM,nN] [0,5,8,21,22,24,25,28,29,30,32,163,166]=some (.normal,wSJ 2 1 g c y l chi k (setM T 2 0 (meT F g.p.at k c.at 2 0 b).1) p (meT F g.p.at k c.at 2 0 b).2):=by kernel_rfl
theorem T3x:gCut Tryz.prog (eE F) 248 wGL (wSJ 2 1 g c y l chi k T p b) nO [0,nA,nD,nI,nJ,nK,nL,nM,nN] [0,5,8,21,22,24,25,28,29,30,32,163,166]=some (.normal,wSJ 2 2 g c y l chi k (setM T 2 1 (meT F g.p.at k c.at 2 1 b).1) p (meT F g.p.at k c.at 2 1 b).2):=by kernel_rfl
theorem T3y:gCut Tryz.prog (eE F) 248 wGL (wSJ 2 2 g c y l chi k T p b) nO [0,nA,nD,nI,nJ,nK,nL,nM,nN] [0,5,8,21,22,24,25,28,29,30,32,163,166]=some (.normal,wSJ 2 3 g c y l chi k (setM T 2 2 (meT F g.p.at k c.at 2 2 b).1) p (meT F g.p.at k c.at 2 2 b).2):=by kernel_rfl
theorem T3z:gCut Tryz.prog (eE F) 248 wGL (wSJ 2 3 g c y l chi k T p b) nO [0,nA,nD,nI,nJ,nK,nL,nM,nN] [0,5,8,21,22,24,25,28,29,30,32,163,166]=some (.normal,wSJ 2 4 g c y l chi k (setM T 2 3 (meT F g.p.at k c.at 2 3 b).1) p (meT F g.p.at k c.at 2 3 b).2):=by kernel_rfl
theorem U3a:gCut Tryz.prog (eE F) 248 wGL (wSJ 2 4 g c y l chi k T p b) nO [0,nA,nD,nI,nJ,nK,nL,nM,nN] [0,5,8,21,22,24,25,28,29,30,32,163,166]=some (.normal,wSJ 2 5 g c y l chi k (setM T 2 4 (meT F g.p.at k c.at 2 4 b).1) p (meT F g.p.at k c.at 2 4 b).2):=by kernel_rfl
theorem U3b:gCut Tryz.prog (eE F) 248 wGL (wSJ 2 5 g c y l chi k T p b) nO [0,nA,nD,nI,nJ,nK,nL,nM,nN] [0,5,8,21,22,24,25,28,29,30,32,163,166]=some (.normal,wSJ 2 6 g c y l chi k (setM T 2 5 (meT F g.p.at k c.at 2 5 b).1) p (meT F g.p.at k c.at 2 5 b).2):=by kernel_rfl
theorem U3c:gCut Tryz.prog (eE F) 248 wGL (wSJ 2 6 g c y l chi k T p b) nO [0,nA,nD,nI,nJ,nK,nL,nM,nN] [0,5,8,21,22,24,25,28,29,30,163]=some (.exit 12,wSG 2 g c y l chi k T p b):=by kernel_rfl
end
end Go.Ab
