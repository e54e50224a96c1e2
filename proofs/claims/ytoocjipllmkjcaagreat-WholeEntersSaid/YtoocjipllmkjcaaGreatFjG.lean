/- A part of the proof of 'CraftHolds': lemmas, no statement of their own; no condition. -/
import Derived.Test.YtoocjipllmkjcaaGreatFjF
namespace Go.Ab
open Go Go.Proofs
section
variable (F:GOps) (b:Bool) (g g':Gs) (sky body:P2) (x z:X13) (Z:Mx) (m y u:R6) (s c l:M6) (Y:Nat→Int) (chi:Int) (k T p:Mx) (ok:Bool) (i j:Int)
theorem wq0:gRun Tryz.prog (eE F) 248 w0 (B0t 248 [.ptr 0 0,.val (Cod.enc g),.val (Cod.enc sky),.val (Cod.enc body)] (row 57 b)) [0,nA,nB,nC,nD] [0,5,6,7,8]=some (.normal,wS0 g sky body b):=by kernel_rfl
theorem wq1:gRun Tryz.prog (eE F) 248 w1 (wS0 g sky body b) [0,nA,nB,nC,nD] [0,5,6,7,8,40]=some (.normal,wSA 0 g sky body b):=by kernel_rfl
theorem U5j:gCut Tryz.prog (eE F) 248 wA (wSA 0 g sky body b) nE [0,nA,nB,nC,nD] [0,5,6,7,8,40]=some (.normal,wSA 1 g (meA0 F sky body b).1.1 (meA0 F sky body b).1.2 (meA0 F sky body b).2):=by kernel_rfl
theorem U5k:gCut Tryz.prog (eE F) 248 wA (wSA 1 g sky body b) nE [0,nA,nB,nC,nD] [0,5,6,7,8,40]=some (.normal,wSA 2 g (meA1 F sky body b).1.1 (meA1 F sky body b).1.2 (meA1 F sky body b).2):=by kernel_rfl
theorem U5m:gCut Tryz.prog (eE F) 248 wA (wSA 2 g sky body b) nE [0,nA,nB,nC,nD] [0,5,6,7,8]=some (.exit 0,wS0 g sky body b):=by kernel_rfl
theorem wq6:gRun Tryz.prog (eE F) 248 w6 (wS0 g sky body b) [0,nA,nB,nC,nD,nE] [0,5,6,7,8,12]=some (.normal,wS6 g sky body (F.pt b (g,())).1 (F.pt b (g,())).2):=by kernel_rfl
theorem wq7:gRun Tryz.prog (eE F) 248 w7 (wS6 g sky body x b) [0,nA,nB,nC,nD,nE,nF] [0,5,6,7,8,12,13]=some (.normal,wS7 g sky body x mx0 b):=by kernel_rfl
theorem wq8:gRun Tryz.prog (eE F) 248 w8 (wS7 g sky body x Z b) [0,nA,nB,nC,nD,nE,nF] [0,5,6,7,8,12,13,61,62]=some (.normal,wSB 0 g sky body x Z b):=by kernel_rfl
theorem U5n:gCut Tryz.prog (eE F) 248 wB (wSB 0 g sky body x Z b) nG [0,nA,nB,nC,nD,nE,nF] [0,5,6,7,8,12,13,61,62]=some (.normal,wSB 1 g sky body x (setX Z 0 (meB F g.q sky (x.row 0) b).1) (meB F g.q sky (x.row 0) b).2):=by kernel_rfl
theorem U5p:gCut Tryz.prog (eE F) 248 wB (wSB 1 g sky body x Z b) nG [0,nA,nB,nC,nD,nE,nF] [0,5,6,7,8,12,13,61,62]=some (.normal,wSB 2 g sky body x (setX Z 1 (meB F g.q sky (x.row 1) b).1) (meB F g.q sky (x.row 1) b).2):=by kernel_rfl
theorem U5q:gCut Tryz.prog (eE F) 248 wB (wSB 2 g sky body x Z b) nG [0,nA,nB,nC,nD,nE,nF] [0,5,6,7,8,12,13,61,62]=some (.normal,wSB 3 g sky body x (setX Z 2 (meB F g.q sky (x.row 2) b).1) (meB F g.q sky (x.row 2) b).2):=by kernel_rfl
theorem U5r:gCut Tryz.prog (eE F) 248 wB (wSB 3 g sky body x Z b) nG [0,nA,nB,nC,nD,nE,nF] [0,5,6,7,8,12,13,61,62]=some (.normal,wSB 4 g sky body x (setX Z 3 (meB F g.q sky (x.row 3) b).1) (meB F g.q sky (x.row 3) b).2):=by kernel_rfl
theorem U5t:gCut Tryz.prog (eE F) 248 wB (wSB 4 g sky body x Z b) nG [0,nA,nB,nC,nD,nE,nF] [0,5,6,7,8,12,13,61,62]=some (.normal,wSB 5 g sky body x (setX Z 4 (meB F g.q sky (x.row 4) b).1) (meB F g.q sky (x.row 4) b).2):=by kernel_rfl
theorem U5u:gCut Tryz.prog (eE F) 248 wB (wSB 5 g sky body x Z b) nG [0,nA,nB,nC,nD,nE,nF] [0,5,6,7,8,12,13,61,62]=some (.normal,wSB 6 g sky body x (setX Z 5 (meB F g.q sky (x.row 5) b).1) (meB F g.q sky (x.row 5) b).2):=by kernel_rfl
theorem U5v:gCut Tryz.prog (eE F) 248 wB (wSB 6 g sky body x Z b) nG [0,nA,nB,nC,nD,nE,nF] [0,5,6,7,8,12,13,61,62]=some (.normal,wSB 7 g sky body x (setX Z 6 (meB F g.q sky (x.row 6) b).1) (meB F g.q sky (x.row 6) b).2):=by kernel_rfl
theorem U5w:gCut Tryz.prog (eE F) 248 wB (wSB 7 g sky body x Z b) nG [0,nA,nB,nC,nD,nE,nF] [0,5,6,7,8,12,13,61,62]=some (.normal,wSB 8 g sky body x (setX Z 7 (meB F g.q sky (x.row 7) b).1) (meB F g.q sky (x.row 7) b).2):=by kernel_rfl
theorem U5x:gCut Tryz.prog (eE F) 248 wB (wSB 8 g sky body x Z b) nG [0,nA,nB,nC,nD,nE,nF] [0,5,6,7,8,12,13,61,62]=some (.normal,wSB 9 g sky body x (setX Z 8 (meB F g.q sky (x.row 8) b).1) (meB F g.q sky (x.row 8) b).2):=by kernel_rfl
theorem U5y:gCut Tryz.prog (eE F) 248 wB (wSB 9 g sky body x Z b) nG [0,nA,nB,nC,nD,nE,nF] [0,5,6,7,8,12,13,61,62]=some (.normal,wSB 10 g sky body x (setX Z 9 (meB F g.q sky (x.row 9) b).1) (meB F g.q sky (x.row 9) b).2):=by kernel_rfl
theorem T4h:gCut Tryz.prog (eE F) 248 wB (wSB 10 g sky body x Z b) nG [0,nA,nB,nC,nD,nE,nF] [0,5,6,7,8,12,13,61,62]=some (.normal,wSB 11 g sky body x (setX Z 10 (meB F g.q sky (x.row 10) b).1) (meB F g.q sky (x.row 10) b).2):=by kernel_rfl
theorem T4j:gCut Tryz.prog (eE F) 248 wB (wSB 11 g sky body x Z b) nG [0,nA,nB,nC,nD,nE,nF] [0,5,6,7,8,12,13,61,62]=some (.normal,wSB 12 g sky body x (setX Z 11 (meB F g.q sky (x.row 11) b).1) (meB F g.q sky (x.row 11) b).2):=by kernel_rfl
theorem T4k:gCut Tryz.prog (eE F) 248 wB (wSB 12 g sky body x Z b) nG [0,nA,nB,nC,nD,nE,nF] [0,5,6,7,8,12,13,61,62]=some (.normal,wSB 13 g sky body x (setX Z 12 (meB F g.q sky (x.row 12) b).1) (meB F g.q sky (x.row 12) b).2):=by kernel_rfl
theorem T4m:gCut Tryz.prog (eE F) 248 wB (wSB 13 g sky body x Z b) nG [0,nA,nB,nC,nD,nE,nF] [0,5,6,7,8,12,13]=some (.exit 2,wS7 g sky body x Z b):=by kernel_rfl
theorem wq15:gRun Tryz.prog (eE F) 248 w15 (wS7 g sky body x Z b) [0,nA,nC,nD,nE,nF,nG] [0,5,7,8,12,13,19]=some (.normal,wS15 g body x (F.cen b (N0r Z)).1.x (F.cen b (N0r Z)).1.m (F.cen b (N0r Z)).2):=by kernel_rfl
theorem wq16:gRun Tryz.prog (eE F) 248 w16 (wS15 g body x z m b) [0,nA,nC,nD,nG,nH,nI] [0,5,7,8,19,20,21]=some (.normal,wS16 g body m (F.pro b z z).1 (F.pro (F.pro b z z).2 x z).1 (F.pro (F.pro b z z).2 x z).2):=by kernel_rfl
theorem wq17:gRun Tryz.prog (eE F) 248 w17 (wS16 g body m s c b) [0,nA,nC,nD,nG,nH,nI] [0,5,7,8,19,20,21]=some (.normal,wS16 g body m (F.ont b s 67108864 268435456).1 c (F.ont b s 67108864 268435456).2):=by kernel_rfl
theorem wq18:gRun Tryz.prog (eE F) 248 w18 (wS16 g body m s c b) [0,nA,nD,nG,nH,nI,nJ] [0,5,8,19,20,21,22]=some (.normal,wS18 g m s c (W0w body.a body.b).at b):=by kernel_rfl
theorem wq19:gRun Tryz.prog (eE F) 248 w19 (wS18 g m s c Y b) [0,nA,nD,nG,nH,nI,nJ] [0,5,8,19,20,21,22,103]=some (.normal,wSD 0 g m s c Y b):=by kernel_rfl
theorem U5z:gCut Tryz.prog (eE F) 248 wD (wSD 0 g m s c Y b) nK [0,nA,nD,nG,nH,nI,nJ] [0,5,8,19,20,21,22,103]=some (.normal,wSD 1 g m s c (setR Y 0 (F.o.sub b (Y 0) (m.at 0)).1) (F.o.sub b (Y 0) (m.at 0)).2):=by kernel_rfl
theorem V5a:gCut Tryz.prog (eE F) 248 wD (wSD 1 g m s c Y b) nK [0,nA,nD,nG,nH,nI,nJ] [0,5,8,19,20,21,22,103]=some (.normal,wSD 2 g m s c (setR Y 1 (F.o.sub b (Y 1) (m.at 1)).1) (F.o.sub b (Y 1) (m.at 1)).2):=by kernel_rfl
theorem V5b:gCut Tryz.prog (eE F) 248 wD (wSD 2 g m s c Y b) nK [0,nA,nD,nG,nH,nI,nJ] [0,5,8,19,20,21,22,103]=some (.normal,wSD 3 g m s c (setR Y 2 (F.o.sub b (Y 2) (m.at 2)).1) (F.o.sub b (Y 2) (m.at 2)).2):=by kernel_rfl
theorem V5c:gCut Tryz.prog (eE F) 248 wD (wSD 3 g m s c Y b) nK [0,nA,nD,nG,nH,nI,nJ] [0,5,8,19,20,21,22,103]=some (.normal,wSD 4 g m s c (setR Y 3 (F.o.sub b (Y 3) (m.at 3)).1) (F.o.sub b (Y 3) (m.at 3)).2):=by kernel_rfl
theorem V5d:gCut Tryz.prog (eE F) 248 wD (wSD 4 g m s c Y b) nK [0,nA,nD,nG,nH,nI,nJ] [0,5,8,19,20,21,22,103]=some (.normal,wSD 5 g m s c (setR Y 4 (F.o.sub b (Y 4) (m.at 4)).1) (F.o.sub b (Y 4) (m.at 4)).2):=by kernel_rfl
theorem V5e:gCut Tryz.prog (eE F) 248 wD (wSD 5 g m s c Y b) nK [0,nA,nD,nG,nH,nI,nJ] [0,5,8,19,20,21,22,103]=some (.normal,wSD 6 g m s c (setR Y 5 (F.o.sub b (Y 5) (m.at 5)).1) (F.o.sub b (Y 5) (m.at 5)).2):=by kernel_rfl
theorem V5g:gCut Tryz.prog (eE F) 248 wD (wSD 6 g m s c Y b) nK [0,nA,nD,nG,nH,nI,nJ] [0,5,8,19,20,21,22]=some (.exit 4,wS18 g m s c Y b):=by kernel_rfl
theorem wq24:gRun Tryz.prog (eE F) 248 w24 (wS18 g m s c Y b) [0,nA,nD,nI,nJ,nK] [0,5,8,21,22,24]=some (.normal,wS24 g c (R6.of Y) (F.rt b (s,6,())).1 (F.rt b (s,6,())).2):=by kernel_rfl
theorem wq25:gRun Tryz.prog (eE F) 248 w25 (wS24 g c y l b) [0,nA,nD,nI,nJ,nK] [0,5,8,21,22,24,25]=some (.normal,wS25 g c y l 0 b):=by kernel_rfl
theorem wq26:gRun Tryz.prog (eE F) 248 w26 (wS25 g c y l chi b) [0,nA,nD,nI,nJ,nK] [0,5,8,21,22,24,25,123,124]=some (.normal,wSE 0 g c y l (F.so b (l,y,6,())).1 chi (F.so b (l,y,6,())).2):=by kernel_rfl
theorem V5h:gCut Tryz.prog (eE F) 248 wE (wSE 0 g c y l u chi b) nL [0,nA,nD,nI,nJ,nK] [0,5,8,21,22,24,25,123,124]=some (.normal,wSE 1 g c y l u (meE F chi (y.at 0) (u.at 0) b).1 (meE F chi (y.at 0) (u.at 0) b).2):=by kernel_rfl
theorem V5j:gCut Tryz.prog (eE F) 248 wE (wSE 1 g c y l u chi b) nL [0,nA,nD,nI,nJ,nK] [0,5,8,21,22,24,25,123,124]=some (.normal,wSE 2 g c y l u (meE F chi (y.at 1) (u.at 1) b).1 (meE F chi (y.at 1) (u.at 1) b).2):=by kernel_rfl
theorem V5k:gCut Tryz.prog (eE F) 248 wE (wSE 2 g c y l u chi b) nL [0,nA,nD,nI,nJ,nK] [0,5,8,21,22,24,25,123,124]=some (.normal,wSE 3 g c y l u (meE F chi (y.at 2) (u.at 2) b).1 (meE F chi (y.at 2) (u.at 2) b).2):=by kernel_rfl
theorem V5m:gCut Tryz.prog (eE F) 248 wE (wSE 3 g c y l u chi b) nL [0,nA,nD,nI,nJ,nK] [0,5,8,21,22,24,25,123,124]=some (.normal,wSE 4 g c y l u (meE F chi (y.at 3) (u.at 3) b).1 (meE F chi (y.at 3) (u.at 3) b).2):=by kernel_rfl
theorem V5n:gCut Tryz.prog (eE F) 248 wE (wSE 4 g c y l u chi b) nL [0,nA,nD,nI,nJ,nK] [0,5,8,21,22,24,25,123,124]=some (.normal,wSE 5 g c y l u (meE F chi (y.at 4) (u.at 4) b).1 (meE F chi (y.at 4) (u.at 4) b).2):=by kernel_rfl
theorem V5p:gCut Tryz.prog (eE F) 248 wE (wSE 5 g c y l u chi b) nL [0,nA,nD,nI,nJ,nK] [0,5,8,21,22,24,25,123,124]=some (.normal,wSE 6 g c y l u (meE F chi (y.at 5) (u.at 5) b).1 (meE F chi (y.at 5) (u.at 5) b).2):=by kernel_rfl
theorem V5q:gCut Tryz.prog (eE F) 248 wE (wSE 6 g c y l u chi b) nL [0,nA,nD,nI,nJ,nK] [0,5,8,21,22,24,25]=some (.exit 6,wS25 g c y l chi b):=by kernel_rfl
theorem U5h:gRun Tryz.prog (eE F) 248 w31 (wS25 g c y l chi true) [0,nD] [0,8,9,10]=some (.ret,wR Gs.zero 0 false true):=by kernel_rfl
theorem U5g:gRun Tryz.prog (eE F) 248 w31 (wS25 g c y l chi false) [0,nA,nD,nI,nJ,nK] [0,5,8,21,22,24,25]=some (.normal,{wS25 g c y l chi false with lo:=nL}):=by kernel_rfl
theorem wq33:gRun Tryz.prog (eE F) 248 w33 (wS25 g c y l chi b) [0,nA,nD,nI,nJ,nK] [0,5,8,9,10,21,22,24,25]=bif decide (chi>32985348833280) then some (.ret,gSt 248 [(0,.ptr 0 0),(8,.ptr nD 0),(9,.val (.int .i64 chi)),(10,.val (.bool false)),(5,.ptr nA 0),(21,.ptr nI 0),(22,.ptr nJ 0),(24,.ptr nK 0),(25,.val (.int .i64 chi))] [(0,.row 57 [.val (.bool b)]),(nA,.row 42 g.av),(nD,.row 42 g.av),(nI,.row 40 c.av),(nJ,.row 38 y.av),(nK,.row 40 l.av)] nL) else some (.normal,gSt 248 [(0,.ptr 0 0),(8,.ptr nD 0),(9,.any),(10,.any),(5,.ptr nA 0),(21,.ptr nI 0),(22,.ptr nJ 0),(24,.ptr nK 0),(25,.val (.int .i64 chi))] [(0,.row 57 [.val (.bool b)]),(nA,.row 42 g.av),(nD,.row 42 Gs.zero.av),(nI,.row 40 c.av),(nJ,.row 38 y.av),(nK,.row 40 l.av)] nL):=by kernel_rfl
theorem wRes:resA Tryz.prog (wR g chi ok b) Tryz.f21.results.toList=some [.val (Cod.enc g),.val (.int .i64 chi),.val (.bool ok)]:=by kernel_rfl
theorem T5t:resA Tryz.prog (wR2 g chi ok b) Tryz.f21.results.toList=some [.val (Cod.enc g),.val (.int .i64 chi),.val (.bool ok)]:=by kernel_rfl
theorem C3p:A0p nE (wSA i g sky body b)=true:=by kernel_rfl
theorem H2w:(wSA i g sky body b).lo=nE:=rfl
theorem L4q:A0p nE (wS0 g sky body b)=true:=by kernel_rfl
theorem M0u:A0p nG (wSB i g sky body x Z b)=true:=by kernel_rfl
theorem L0m:(wSB i g sky body x Z b).lo=nG:=rfl
theorem L4r:A0p nG (wS7 g sky body x Z b)=true:=by kernel_rfl
theorem G1m:A0p nK (wSD i g m s c Y b)=true:=by kernel_rfl
theorem A1t:(wSD i g m s c Y b).lo=nK:=rfl
theorem N3w:A0p nK (wS18 g m s c Y b)=true:=by kernel_rfl
theorem G1n:A0p nL (wSE i g c y l u chi b)=true:=by kernel_rfl
theorem A1u:(wSE i g c y l u chi b).lo=nL:=rfl
theorem N3x:A0p nL (wS25 g c y l chi b)=true:=by kernel_rfl
theorem G1p:A0p nO (wSF i g c y l chi k T p b)=true:=by kernel_rfl
theorem A1v:(wSF i g c y l chi k T p b).lo=nO:=rfl
theorem U1q:A0p nO (wS35 g c y l chi k T p b)=true:=by kernel_rfl
theorem G1q:A0p nO (wSG i g c y l chi k T p b)=true:=by kernel_rfl
theorem C4n:(wSG i g c y l chi k T p b).lo=nO:=rfl
theorem C0m:A0p nO (wSJ i j g c y l chi k T p b)=true:=by kernel_rfl
theorem B0x:(wSJ i j g c y l chi k T p b).lo=nO:=rfl
theorem G1r:A0p nO (wSH i g c y l chi k T p b)=true:=by kernel_rfl
theorem A1w:(wSH i g c y l chi k T p b).lo=nO:=rfl
end
end Go.Ab
