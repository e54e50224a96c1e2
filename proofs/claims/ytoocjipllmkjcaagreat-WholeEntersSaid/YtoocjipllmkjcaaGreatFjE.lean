/- A part of the proof of 'CraftHolds': lemmas, no statement of their own; no condition. -/
import Derived.Test.YtoocjipllmkjcaaGreatFjD
namespace Go.Ab
open Go Go.Proofs
def X13.row(x:X13):Nat→R6
 | 0=>x.r0
 | 1=>x.r1
 | 2=>x.r2
 | 3=>x.r3
 | 4=>x.r4
 | 5=>x.r5
 | 6=>x.r6
 | 7=>x.r7
 | 8=>x.r8
 | 9=>x.r9
 | 10=>x.r10
 | 11=>x.r11
 | _=>x.r12
def v4at(q:V4):Nat→Int
 | 0=>q.w
 | 1=>q.x
 | 2=>q.y
 | _=>q.z
def v4of(v:Nat→Int):V4:=⟨v 0,v 1,v 2,v 3⟩
def setT(T:Mx)(k:Nat)(q:V4):Mx:=fun a c=>bif Nat.beq a k then v4at q c else T a c
def setX(X:Mx)(k:Nat)(r:R6):Mx:=fun a c=>bif Nat.beq a k then r.at c else X a c
def Z0r(T:Mx):List AV:=(nums 0 52).map fun j=>.val (.int .i64 (T (j / 4) (j % 4)))
def V3.av(v:V3):List AV:=[.val (.int .i64 v.x),.val (.int .i64 v.y),.val (.int .i64 v.z)]
def V4.av(v:V4):List AV:=[.val (.int .i64 v.w),.val (.int .i64 v.x),.val (.int .i64 v.y),.val (.int .i64 v.z)]
def R6.av(r:R6):List AV:=r.cells.map .val
def Gs.av(g:Gs):List AV:=g.q.av++(g.bias.av++g.p.av)
structure FOps where
 o:Ops
 vs:Bool→V3×V3×Unit→V3×Bool
 tu:TFun
 un:UFun
 mu:QFun
 tr:Bool→V4×Unit→V3×Bool
 bk:V4×Unit→V4
 pt:Bool→Gs×Unit→X13×Bool
 cen:CFun
 pro:PFun
 ont:OFun
 st:Bool→V4×V3×R6×M6×Unit→Two Gs Bool×Bool
def C5c(F:FOps):Gam:=[(132,S 57 F.vs),(54,S 57 F.tu),(133,S 57 F.un),(135,S 57 F.mu),(134,S 57 F.tr),(136,S0 F.bk),(52,S 57 F.pt),(57,ctrS F.cen),(58,prdS F.pro),(59,ontS F.ont),(66,S 57 F.st),(53,S0 fun (p:R6×Unit)=>D0m p.1),(55,S0 fun (p:V3×V3×Unit)=>W0w p.1 p.2.1),(65,S 57 (op3 F.o.part)),(131,S 57 E2w)]
abbrev eM(F:FOps):Env:={gam:=C5c F}
def mv1(F:FOps)(q:V4)(rate:V3)(ms:Int)(r:R6)(b:Bool):V4×Bool :=
 let w:=F.vs b (rate,(D0m r).b,())
 let w0:=F.o.part w.2 w.1.x ms 1000
 let w1:=F.o.part w0.2 w.1.y ms 1000
 let w2:=F.o.part w1.2 w.1.z ms 1000
 let p:=F.tu w2.2 ((D0m r).a,q,())
 F.tu p.2 (⟨w0.1,w1.1,w2.1⟩,p.1,())
def mv2(F:FOps)(mid t:V4)(r:R6)(b:Bool):R6×Bool :=
 let m:=F.mu b (t,F.bk (mid,()),())
 let e:=F.tr m.2 (m.1,())
 (W0w e.1 (D0m r).b,e.2)
noncomputable def vC:Code:=Tryz.f49.body.getD .skip
noncomputable def v0:Code:=seqL vC
noncomputable def vT1:Code:=seqR vC
noncomputable def v1:Code:=seqL vT1
noncomputable def vT3:Code:=seqR vT1
noncomputable def v3:Code:=seqL vT3
noncomputable def v4:Code:=seqL (seqR vT3)
noncomputable def v5:Code:=seqL (seqR (seqR vT3))
noncomputable def vT6:Code:=seqR (seqR (seqR vT3))
noncomputable def v6:Code:=seqL (seqL vT6)
noncomputable def vL:Code:=inB (inB (seqR (seqL vT6)))
noncomputable def vT18:Code:=seqR vT6
noncomputable def v18:Code:=seqL vT18
noncomputable def v19:Code:=seqL (seqL (seqR vT18))
noncomputable def vM:Code:=inB (inB (seqR (seqL (seqR vT18))))
noncomputable def vT25:Code:=seqR (seqR vT18)
noncomputable def v25:Code:=seqL vT25
noncomputable def v26:Code:=seqL (seqR vT25)
noncomputable def v27:Code:=seqL (seqR (seqR vT25))
noncomputable def v28:Code:=seqL (seqR (seqR (seqR vT25)))
noncomputable def v29:Code:=seqR (seqR (seqR (seqR vT25)))
theorem R4j:Tryz.f49.body=some (.seq v0 (.seq v1 (.seq v3 (.seq v4 (.seq v5 (.seq (.seq v6 (.block 0 (.loop vL))) (.seq v18 (.seq (.seq v19 (.block 4 (.loop vM))) (.seq v25 (.seq v26 (.seq v27 (.seq v28 v29)))))))))))):=by kernel_rfl
theorem vN:Tryz.f49.ntmps=130:=by kernel_rfl
abbrev nH:Nat:=4096+7*2^180
abbrev nI:Nat:=4096+8*2^180
abbrev nJ:Nat:=4096+9*2^180
def vH(b:Bool)(g:Gs)(rate:V3)(e:Hp):Hp:=[(0,.row 57 [.val (.bool b)]),(nA,.row 42 g.av),(nB,.row 32 rate.av),(nC,.row 42 Gs.zero.av)]++e
def vF(ms:Int)(e:List (Nat×AV)):List (Nat×AV):=[(0,.ptr 0 0),(3,.val (.int .i64 ms)),(5,.ptr nA 0),(6,.ptr nB 0),(8,.ptr nC 0)]++e
abbrev vK(e:List Nat):List Nat:=[0,nA,nB,nC]++e
abbrev vTs(e:List Nat):List Nat:=[0,3,5,6,8]++e
def vS0(ms:Int)(b:Bool)(g:Gs)(rate:V3):St:=gSt 130 (vF ms []) (vH b g rate []) nD
def vS3(ms:Int)(b:Bool)(g:Gs)(rate:V3)(x:X13):St:=gSt 130 (vF ms [(9,.ptr nD 0)]) (vH b g rate [(nD,.row 112 x.av)]) nE
def vS5(ms:Int)(b:Bool)(g:Gs)(rate:V3)(x:X13):St:=gSt 130 (vF ms [(9,.ptr nD 0),(10,.ptr nE 0)]) (vH b g rate [(nD,.row 112 x.av),(nE,.row 193 (Z0r mx0))]) nF
def vSL(ms:Int)(k:Int)(g:Gs)(rate:V3)(x:X13)(T:Mx)(b:Bool):St:=gSt 130 (vF ms [(9,.ptr nD 0),(10,.ptr nE 0),(42,.val (Cod.enc x)),(43,.val (.int .i64 k))]) (vH b g rate [(nD,.row 112 x.av),(nE,.row 193 (Z0r T))]) nF
def vSX(ms:Int)(g:Gs)(rate:V3)(x:X13)(T:Mx)(b:Bool):St:=gSt 130 (vF ms [(9,.ptr nD 0),(10,.ptr nE 0)]) (vH b g rate [(nD,.row 112 x.av),(nE,.row 193 (Z0r T))]) nF
def vG(ms:Int)(e:List (Nat×AV)):List (Nat×AV):=[(0,.ptr 0 0),(3,.val (.int .i64 ms)),(5,.ptr nA 0),(8,.ptr nC 0),(9,.ptr nD 0),(17,.ptr nF 0)]++e
def vI(b:Bool)(g:Gs)(mid:V4)(xs:List AV)(e:Hp):Hp:=[(0,.row 57 [.val (.bool b)]),(nA,.row 42 g.av),(nC,.row 42 Gs.zero.av),(nD,.row 112 xs),(nF,.row 36 mid.av)]++e
abbrev vK2(e:List Nat):List Nat:=[0,nA,nC,nD,nF]++e
abbrev vT2(e:List Nat):List Nat:=[0,3,5,8,9,17]++e
def vS18(ms:Int)(g:Gs)(mid:V4)(x:X13)(T:Mx)(b:Bool):St:=gSt 130 (vG ms [(10,.ptr nE 0)]) (vI b g mid x.av [(nE,.row 193 (Z0r T))]) nG
def vSM(ms:Int)(k:Int)(g:Gs)(mid:V4)(x:X13)(T X:Mx)(b:Bool):St:=gSt 130 (vG ms [(10,.ptr nE 0),(83,.val (Cod.enc x)),(84,.val (.int .i64 k))]) (vI b g mid (C0d X) [(nE,.row 193 (Z0r T))]) nG
def vSY(ms:Int)(g:Gs)(mid:V4)(X:Mx)(b:Bool):St:=gSt 130 (vG ms []) (vI b g mid (C0d X) []) nG
def vS25(ms:Int)(g:Gs)(mid:V4)(x:X13)(m:R6)(b:Bool):St:=gSt 130 (vG ms [(22,.ptr nG 0)]) (vI b g mid x.av [(nG,.row 38 m.av)]) nH
def vS26(ms:Int)(g:Gs)(mid:V4)(x:X13)(m:R6)(p:M6)(b:Bool):St:=gSt 130 (vG ms [(22,.ptr nG 0),(23,.ptr nH 0)]) (vI b g mid x.av [(nG,.row 38 m.av),(nH,.row 40 p.av)]) nI
def vS28(g:Gs)(b:Bool):St:=gSt 130 [(8,.ptr nC 0),(24,.ptr nI 0)] [(0,.row 57 [.val (.bool b)]),(nC,.row 42 Gs.zero.av),(nI,.row 42 g.av)] nJ
def vS29(g:Gs)(b:Bool):St:=gSt 130 [(8,.ptr nC 0)] [(0,.row 57 [.val (.bool b)]),(nC,.row 42 g.av)] nJ
section
variable (F:FOps) (ms k:Int) (b:Bool) (g g':Gs) (rate:V3) (x:X13) (T X:Mx) (mid:V4) (m:R6) (p:M6)
theorem vq0:gRun Tryz.prog (eM F) 130 v0 (B0t 130 [.ptr 0 0,.val (Cod.enc g),.val (Cod.enc rate),.val (.int .i64 ms)] (row 57 b)) (vK []) (vTs [])=some (.normal,vS0 ms b g rate):=by kernel_rfl
theorem vq1:gRun Tryz.prog (eM F) 130 v1 (vS0 ms b g rate) (vK []) (vTs [])=bif decide (ms<10) then some (.normal,vS0 ms true g rate) else bif bif false then true else decide (ms>10000) then some (.normal,vS0 ms true g rate) else some (.normal,{vS0 ms b g rate with lo:=nD}):=by kernel_rfl
theorem vq3:gRun Tryz.prog (eM F) 130 v3 (vS0 ms b g rate) (vK [nD]) (vTs [9])=some (.normal,vS3 ms (F.pt b (g,())).2 g rate (F.pt b (g,())).1):=by kernel_rfl
theorem vq4:gRun Tryz.prog (eM F) 130 v4 (vS3 ms b g rate x) (vK [nD]) (vTs [9])=some (.normal,vS3 ms (F.vs b (rate,g.bias,())).2 g (F.vs b (rate,g.bias,())).1 x):=by kernel_rfl
theorem vq5:gRun Tryz.prog (eM F) 130 v5 (vS3 ms b g rate x) (vK [nD,nE]) (vTs [9,10])=some (.normal,vS5 ms b g rate x):=by kernel_rfl
theorem vq6:gRun Tryz.prog (eM F) 130 v6 (vS5 ms b g rate x) (vK [nD,nE]) (vTs [9,10,42,43])=some (.normal,vSL ms 0 g rate x mx0 b):=by kernel_rfl
theorem Q5v:gCut Tryz.prog (eM F) 130 vL (vSL ms 0 g rate x T b) nF (vK [nD,nE]) (vTs [9,10,42,43])=some (.normal,vSL ms 1 g rate x (setT T 0 (mv1 F g.q rate ms (x.row 0) b).1) (mv1 F g.q rate ms (x.row 0) b).2):=by kernel_rfl
theorem Q5w:gCut Tryz.prog (eM F) 130 vL (vSL ms 1 g rate x T b) nF (vK [nD,nE]) (vTs [9,10,42,43])=some (.normal,vSL ms 2 g rate x (setT T 1 (mv1 F g.q rate ms (x.row 1) b).1) (mv1 F g.q rate ms (x.row 1) b).2):=by kernel_rfl
theorem Q5x:gCut Tryz.prog (eM F) 130 vL (vSL ms 2 g rate x T b) nF (vK [nD,nE]) (vTs [9,10,42,43])=some (.normal,vSL ms 3 g rate x (setT T 2 (mv1 F g.q rate ms (x.row 2) b).1) (mv1 F g.q rate ms (x.row 2) b).2):=by kernel_rfl
theorem Q5y:gCut Tryz.prog (eM F) 130 vL (vSL ms 3 g rate x T b) nF (vK [nD,nE]) (vTs [9,10,42,43])=some (.normal,vSL ms 4 g rate x (setT T 3 (mv1 F g.q rate ms (x.row 3) b).1) (mv1 F g.q rate ms (x.row 3) b).2):=by kernel_rfl
theorem Q5z:gCut Tryz.prog (eM F) 130 vL (vSL ms 4 g rate x T b) nF (vK [nD,nE]) (vTs [9,10,42,43])=some (.normal,vSL ms 5 g rate x (setT T 4 (mv1 F g.q rate ms (x.row 4) b).1) (mv1 F g.q rate ms (x.row 4) b).2):=by kernel_rfl
theorem R5a:gCut Tryz.prog (eM F) 130 vL (vSL ms 5 g rate x T b) nF (vK [nD,nE]) (vTs [9,10,42,43])=some (.normal,vSL ms 6 g rate x (setT T 5 (mv1 F g.q rate ms (x.row 5) b).1) (mv1 F g.q rate ms (x.row 5) b).2):=by kernel_rfl
theorem R5b:gCut Tryz.prog (eM F) 130 vL (vSL ms 6 g rate x T b) nF (vK [nD,nE]) (vTs [9,10,42,43])=some (.normal,vSL ms 7 g rate x (setT T 6 (mv1 F g.q rate ms (x.row 6) b).1) (mv1 F g.q rate ms (x.row 6) b).2):=by kernel_rfl
theorem R5c:gCut Tryz.prog (eM F) 130 vL (vSL ms 7 g rate x T b) nF (vK [nD,nE]) (vTs [9,10,42,43])=some (.normal,vSL ms 8 g rate x (setT T 7 (mv1 F g.q rate ms (x.row 7) b).1) (mv1 F g.q rate ms (x.row 7) b).2):=by kernel_rfl
theorem R5d:gCut Tryz.prog (eM F) 130 vL (vSL ms 8 g rate x T b) nF (vK [nD,nE]) (vTs [9,10,42,43])=some (.normal,vSL ms 9 g rate x (setT T 8 (mv1 F g.q rate ms (x.row 8) b).1) (mv1 F g.q rate ms (x.row 8) b).2):=by kernel_rfl
theorem R5e:gCut Tryz.prog (eM F) 130 vL (vSL ms 9 g rate x T b) nF (vK [nD,nE]) (vTs [9,10,42,43])=some (.normal,vSL ms 10 g rate x (setT T 9 (mv1 F g.q rate ms (x.row 9) b).1) (mv1 F g.q rate ms (x.row 9) b).2):=by kernel_rfl
theorem R4k:gCut Tryz.prog (eM F) 130 vL (vSL ms 10 g rate x T b) nF (vK [nD,nE]) (vTs [9,10,42,43])=some (.normal,vSL ms 11 g rate x (setT T 10 (mv1 F g.q rate ms (x.row 10) b).1) (mv1 F g.q rate ms (x.row 10) b).2):=by kernel_rfl
theorem R4m:gCut Tryz.prog (eM F) 130 vL (vSL ms 11 g rate x T b) nF (vK [nD,nE]) (vTs [9,10,42,43])=some (.normal,vSL ms 12 g rate x (setT T 11 (mv1 F g.q rate ms (x.row 11) b).1) (mv1 F g.q rate ms (x.row 11) b).2):=by kernel_rfl
theorem R4n:gCut Tryz.prog (eM F) 130 vL (vSL ms 12 g rate x T b) nF (vK [nD,nE]) (vTs [9,10,42,43])=some (.normal,vSL ms 13 g rate x (setT T 12 (mv1 F g.q rate ms (x.row 12) b).1) (mv1 F g.q rate ms (x.row 12) b).2):=by kernel_rfl
theorem R4p:gCut Tryz.prog (eM F) 130 vL (vSL ms 13 g rate x T b) nF (vK [nD,nE]) (vTs [9,10])=some (.exit 0,vSX ms g rate x T b):=by kernel_rfl
theorem vq18:gRun Tryz.prog (eM F) 130 v18 (vSX ms g rate x T b) (vK2 [nE]) (vT2 [10])=some (.normal,vS18 ms g (F.un b (v4of (T 0),())).1 x T (F.un b (v4of (T 0),())).2):=by kernel_rfl
theorem vq19:gRun Tryz.prog (eM F) 130 v19 (vS18 ms g mid x T b) (vK2 [nE]) (vT2 [10,83,84])=some (.normal,vSM ms 0 g mid x T x.at b):=by kernel_rfl
theorem R5g:gCut Tryz.prog (eM F) 130 vM (vSM ms 0 g mid x T X b) nG (vK2 [nE]) (vT2 [10,83,84])=some (.normal,vSM ms 1 g mid x T (setX X 0 (mv2 F mid (v4of (T 0)) (x.row 0) b).1) (mv2 F mid (v4of (T 0)) (x.row 0) b).2):=by kernel_rfl
theorem R5h:gCut Tryz.prog (eM F) 130 vM (vSM ms 1 g mid x T X b) nG (vK2 [nE]) (vT2 [10,83,84])=some (.normal,vSM ms 2 g mid x T (setX X 1 (mv2 F mid (v4of (T 1)) (x.row 1) b).1) (mv2 F mid (v4of (T 1)) (x.row 1) b).2):=by kernel_rfl
theorem R5j:gCut Tryz.prog (eM F) 130 vM (vSM ms 2 g mid x T X b) nG (vK2 [nE]) (vT2 [10,83,84])=some (.normal,vSM ms 3 g mid x T (setX X 2 (mv2 F mid (v4of (T 2)) (x.row 2) b).1) (mv2 F mid (v4of (T 2)) (x.row 2) b).2):=by kernel_rfl
theorem R5k:gCut Tryz.prog (eM F) 130 vM (vSM ms 3 g mid x T X b) nG (vK2 [nE]) (vT2 [10,83,84])=some (.normal,vSM ms 4 g mid x T (setX X 3 (mv2 F mid (v4of (T 3)) (x.row 3) b).1) (mv2 F mid (v4of (T 3)) (x.row 3) b).2):=by kernel_rfl
theorem R5m:gCut Tryz.prog (eM F) 130 vM (vSM ms 4 g mid x T X b) nG (vK2 [nE]) (vT2 [10,83,84])=some (.normal,vSM ms 5 g mid x T (setX X 4 (mv2 F mid (v4of (T 4)) (x.row 4) b).1) (mv2 F mid (v4of (T 4)) (x.row 4) b).2):=by kernel_rfl
theorem R5n:gCut Tryz.prog (eM F) 130 vM (vSM ms 5 g mid x T X b) nG (vK2 [nE]) (vT2 [10,83,84])=some (.normal,vSM ms 6 g mid x T (setX X 5 (mv2 F mid (v4of (T 5)) (x.row 5) b).1) (mv2 F mid (v4of (T 5)) (x.row 5) b).2):=by kernel_rfl
theorem R5p:gCut Tryz.prog (eM F) 130 vM (vSM ms 6 g mid x T X b) nG (vK2 [nE]) (vT2 [10,83,84])=some (.normal,vSM ms 7 g mid x T (setX X 6 (mv2 F mid (v4of (T 6)) (x.row 6) b).1) (mv2 F mid (v4of (T 6)) (x.row 6) b).2):=by kernel_rfl
theorem R5q:gCut Tryz.prog (eM F) 130 vM (vSM ms 7 g mid x T X b) nG (vK2 [nE]) (vT2 [10,83,84])=some (.normal,vSM ms 8 g mid x T (setX X 7 (mv2 F mid (v4of (T 7)) (x.row 7) b).1) (mv2 F mid (v4of (T 7)) (x.row 7) b).2):=by kernel_rfl
theorem R5r:gCut Tryz.prog (eM F) 130 vM (vSM ms 8 g mid x T X b) nG (vK2 [nE]) (vT2 [10,83,84])=some (.normal,vSM ms 9 g mid x T (setX X 8 (mv2 F mid (v4of (T 8)) (x.row 8) b).1) (mv2 F mid (v4of (T 8)) (x.row 8) b).2):=by kernel_rfl
theorem R5t:gCut Tryz.prog (eM F) 130 vM (vSM ms 9 g mid x T X b) nG (vK2 [nE]) (vT2 [10,83,84])=some (.normal,vSM ms 10 g mid x T (setX X 9 (mv2 F mid (v4of (T 9)) (x.row 9) b).1) (mv2 F mid (v4of (T 9)) (x.row 9) b).2):=by kernel_rfl
theorem R4q:gCut Tryz.prog (eM F) 130 vM (vSM ms 10 g mid x T X b) nG (vK2 [nE]) (vT2 [10,83,84])=some (.normal,vSM ms 11 g mid x T (setX X 10 (mv2 F mid (v4of (T 10)) (x.row 10) b).1) (mv2 F mid (v4of (T 10)) (x.row 10) b).2):=by kernel_rfl
theorem R4r:gCut Tryz.prog (eM F) 130 vM (vSM ms 11 g mid x T X b) nG (vK2 [nE]) (vT2 [10,83,84])=some (.normal,vSM ms 12 g mid x T (setX X 11 (mv2 F mid (v4of (T 11)) (x.row 11) b).1) (mv2 F mid (v4of (T 11)) (x.row 11) b).2):=by kernel_rfl
theorem R4t:gCut Tryz.prog (eM F) 130 vM (vSM ms 12 g mid x T X b) nG (vK2 [nE]) (vT2 [10,83,84])=some (.normal,vSM ms 13 g mid x T (setX X 12 (mv2 F mid (v4of (T 12)) (x.row 12) b).1) (mv2 F mid (v4of (T 12)) (x.row 12) b).2):=by kernel_rfl
theorem R4u:gCut Tryz.prog (eM F) 130 vM (vSM ms 13 g mid x T X b) nG (vK2 []) (vT2 [])=some (.exit 4,vSY ms g mid X b):=by kernel_rfl
theorem vq25:gRun Tryz.prog (eM F) 130 v25 (vSY ms g mid X b) (vK2 [nG]) (vT2 [22])=some (.normal,vS25 ms g mid (F.cen b (N0r X)).1.x (F.cen b (N0r X)).1.m (F.cen b (N0r X)).2):=by kernel_rfl
theorem vq26:gRun Tryz.prog (eM F) 130 v26 (vS25 ms g mid x m b) (vK2 [nG,nH]) (vT2 [22,23])=some (.normal,vS26 ms g mid x m (F.pro b x x).1 (F.pro b x x).2):=by kernel_rfl
def mv3(F:FOps)(ms:Int)(p:M6)(b:Bool):M6×Bool :=
 let a:=F.o.part b 65536 ms 1000
 let d:=F.o.part a.2 1024 ms 1000
 F.ont d.2 p a.1 d.1
theorem vq27:gRun Tryz.prog (eM F) 130 v27 (vS26 ms g mid x m p b) (vK2 [nG,nH]) (vT2 [22,23])=some (.normal,vS26 ms g mid x m (mv3 F ms p b).1 (mv3 F ms p b).2):=by kernel_rfl
theorem vq28:gRun Tryz.prog (eM F) 130 v28 (vS26 ms g mid x m p b) [0,nC,nI] [8,24]=some (.normal,vS28 (F.st b (mid,g.bias,m,p,())).1.a (F.st b (mid,g.bias,m,p,())).2):=by kernel_rfl
theorem vq29:gRun Tryz.prog (eM F) 130 v29 (vS28 g b) [0,nC] [8]=some (.ret,vS29 g b):=by kernel_rfl
theorem vR:resA Tryz.prog (vS29 g b) Tryz.f49.results.toList=some [.val (Cod.enc g)]:=by kernel_rfl
theorem vcL:A0p nF (vSL ms k g rate x T b)=true:=by kernel_rfl
theorem vcX:A0p nF (vSX ms g rate x T b)=true:=by kernel_rfl
theorem vcM:A0p nG (vSM ms k g mid x T X b)=true:=by kernel_rfl
theorem vcY:A0p nG (vSY ms g mid X b)=true:=by kernel_rfl
end
section
variable {F:FOps} (hG:GamOk Tryz.prog (eM F).gam) (ms k:Int) (b:Bool) (g:Gs) (rate:V3) (x:X13) (T X:Mx) (mid:V4)
include hG
omit hG in
theorem vlL:(vSL ms k g rate x T b).lo=nF:=rfl
omit hG in
theorem vlM:(vSM ms k g mid x T X b).lo=nG:=rfl
def mvF1(F:FOps)(q:V4)(rate:V3)(ms:Int)(x:X13)(k:Nat)(z:Mx×Bool):Mx×Bool:=(setT z.1 k (mv1 F q rate ms (x.row k) z.2).1,(mv1 F q rate ms (x.row k) z.2).2)
def mvF2(F:FOps)(mid:V4)(x:X13)(T:Mx)(k:Nat)(z:Mx×Bool):Mx×Bool:=(setX z.1 k (mv2 F mid (v4of (T k)) (x.row k) z.2).1,(mv2 F mid (v4of (T k)) (x.row k) z.2).2)
theorem R5u:A0b Tryz.prog 130 vL (vSL ms 0 g rate x T b) .normal (vSL ms 1 g rate x (mvF1 F g.q rate ms x 0 (T,b)).1 (mvF1 F g.q rate ms x 0 (T,b)).2):=A0c hG (Q5v F ms b g rate x T) (vlL ..) (vcL ..) rfl
theorem T5e:A0b Tryz.prog 130 vM (vSM ms 0 g mid x T X b) .normal (vSM ms 1 g mid x T (mvF2 F mid x T 0 (X,b)).1 (mvF2 F mid x T 0 (X,b)).2):=A0c hG (R5g F ms b g x T X mid) (vlM ..) (vcM ..) rfl
theorem R5v:A0b Tryz.prog 130 vL (vSL ms 1 g rate x T b) .normal (vSL ms 2 g rate x (mvF1 F g.q rate ms x 1 (T,b)).1 (mvF1 F g.q rate ms x 1 (T,b)).2):=A0c hG (Q5w F ms b g rate x T) (vlL ..) (vcL ..) rfl
theorem T5g:A0b Tryz.prog 130 vM (vSM ms 1 g mid x T X b) .normal (vSM ms 2 g mid x T (mvF2 F mid x T 1 (X,b)).1 (mvF2 F mid x T 1 (X,b)).2):=A0c hG (R5h F ms b g x T X mid) (vlM ..) (vcM ..) rfl
theorem R5w:A0b Tryz.prog 130 vL (vSL ms 2 g rate x T b) .normal (vSL ms 3 g rate x (mvF1 F g.q rate ms x 2 (T,b)).1 (mvF1 F g.q rate ms x 2 (T,b)).2):=A0c hG (Q5x F ms b g rate x T) (vlL ..) (vcL ..) rfl
theorem T5h:A0b Tryz.prog 130 vM (vSM ms 2 g mid x T X b) .normal (vSM ms 3 g mid x T (mvF2 F mid x T 2 (X,b)).1 (mvF2 F mid x T 2 (X,b)).2):=A0c hG (R5j F ms b g x T X mid) (vlM ..) (vcM ..) rfl
theorem R5x:A0b Tryz.prog 130 vL (vSL ms 3 g rate x T b) .normal (vSL ms 4 g rate x (mvF1 F g.q rate ms x 3 (T,b)).1 (mvF1 F g.q rate ms x 3 (T,b)).2):=A0c hG (Q5y F ms b g rate x T) (vlL ..) (vcL ..) rfl
theorem T5j:A0b Tryz.prog 130 vM (vSM ms 3 g mid x T X b) .normal (vSM ms 4 g mid x T (mvF2 F mid x T 3 (X,b)).1 (mvF2 F mid x T 3 (X,b)).2):=A0c hG (R5k F ms b g x T X mid) (vlM ..) (vcM ..) rfl
theorem R5y:A0b Tryz.prog 130 vL (vSL ms 4 g rate x T b) .normal (vSL ms 5 g rate x (mvF1 F g.q rate ms x 4 (T,b)).1 (mvF1 F g.q rate ms x 4 (T,b)).2):=A0c hG (Q5z F ms b g rate x T) (vlL ..) (vcL ..) rfl
theorem T5k:A0b Tryz.prog 130 vM (vSM ms 4 g mid x T X b) .normal (vSM ms 5 g mid x T (mvF2 F mid x T 4 (X,b)).1 (mvF2 F mid x T 4 (X,b)).2):=A0c hG (R5m F ms b g x T X mid) (vlM ..) (vcM ..) rfl
theorem R5z:A0b Tryz.prog 130 vL (vSL ms 5 g rate x T b) .normal (vSL ms 6 g rate x (mvF1 F g.q rate ms x 5 (T,b)).1 (mvF1 F g.q rate ms x 5 (T,b)).2):=A0c hG (R5a F ms b g rate x T) (vlL ..) (vcL ..) rfl
theorem T5m:A0b Tryz.prog 130 vM (vSM ms 5 g mid x T X b) .normal (vSM ms 6 g mid x T (mvF2 F mid x T 5 (X,b)).1 (mvF2 F mid x T 5 (X,b)).2):=A0c hG (R5n F ms b g x T X mid) (vlM ..) (vcM ..) rfl
theorem T5a:A0b Tryz.prog 130 vL (vSL ms 6 g rate x T b) .normal (vSL ms 7 g rate x (mvF1 F g.q rate ms x 6 (T,b)).1 (mvF1 F g.q rate ms x 6 (T,b)).2):=A0c hG (R5b F ms b g rate x T) (vlL ..) (vcL ..) rfl
theorem T5n:A0b Tryz.prog 130 vM (vSM ms 6 g mid x T X b) .normal (vSM ms 7 g mid x T (mvF2 F mid x T 6 (X,b)).1 (mvF2 F mid x T 6 (X,b)).2):=A0c hG (R5p F ms b g x T X mid) (vlM ..) (vcM ..) rfl
theorem T5b:A0b Tryz.prog 130 vL (vSL ms 7 g rate x T b) .normal (vSL ms 8 g rate x (mvF1 F g.q rate ms x 7 (T,b)).1 (mvF1 F g.q rate ms x 7 (T,b)).2):=A0c hG (R5c F ms b g rate x T) (vlL ..) (vcL ..) rfl
theorem T5p:A0b Tryz.prog 130 vM (vSM ms 7 g mid x T X b) .normal (vSM ms 8 g mid x T (mvF2 F mid x T 7 (X,b)).1 (mvF2 F mid x T 7 (X,b)).2):=A0c hG (R5q F ms b g x T X mid) (vlM ..) (vcM ..) rfl
theorem T5c:A0b Tryz.prog 130 vL (vSL ms 8 g rate x T b) .normal (vSL ms 9 g rate x (mvF1 F g.q rate ms x 8 (T,b)).1 (mvF1 F g.q rate ms x 8 (T,b)).2):=A0c hG (R5d F ms b g rate x T) (vlL ..) (vcL ..) rfl
theorem T5q:A0b Tryz.prog 130 vM (vSM ms 8 g mid x T X b) .normal (vSM ms 9 g mid x T (mvF2 F mid x T 8 (X,b)).1 (mvF2 F mid x T 8 (X,b)).2):=A0c hG (R5r F ms b g x T X mid) (vlM ..) (vcM ..) rfl
theorem T5d:A0b Tryz.prog 130 vL (vSL ms 9 g rate x T b) .normal (vSL ms 10 g rate x (mvF1 F g.q rate ms x 9 (T,b)).1 (mvF1 F g.q rate ms x 9 (T,b)).2):=A0c hG (R5e F ms b g rate x T) (vlL ..) (vcL ..) rfl
theorem T5r:A0b Tryz.prog 130 vM (vSM ms 9 g mid x T X b) .normal (vSM ms 10 g mid x T (mvF2 F mid x T 9 (X,b)).1 (mvF2 F mid x T 9 (X,b)).2):=A0c hG (R5t F ms b g x T X mid) (vlM ..) (vcM ..) rfl
theorem R4v:A0b Tryz.prog 130 vL (vSL ms 10 g rate x T b) .normal (vSL ms 11 g rate x (mvF1 F g.q rate ms x 10 (T,b)).1 (mvF1 F g.q rate ms x 10 (T,b)).2):=A0c hG (R4k F ms b g rate x T) (vlL ..) (vcL ..) rfl
theorem R4z:A0b Tryz.prog 130 vM (vSM ms 10 g mid x T X b) .normal (vSM ms 11 g mid x T (mvF2 F mid x T 10 (X,b)).1 (mvF2 F mid x T 10 (X,b)).2):=A0c hG (R4q F ms b g x T X mid) (vlM ..) (vcM ..) rfl
theorem R4w:A0b Tryz.prog 130 vL (vSL ms 11 g rate x T b) .normal (vSL ms 12 g rate x (mvF1 F g.q rate ms x 11 (T,b)).1 (mvF1 F g.q rate ms x 11 (T,b)).2):=A0c hG (R4m F ms b g rate x T) (vlL ..) (vcL ..) rfl
theorem T4a:A0b Tryz.prog 130 vM (vSM ms 11 g mid x T X b) .normal (vSM ms 12 g mid x T (mvF2 F mid x T 11 (X,b)).1 (mvF2 F mid x T 11 (X,b)).2):=A0c hG (R4r F ms b g x T X mid) (vlM ..) (vcM ..) rfl
theorem R4x:A0b Tryz.prog 130 vL (vSL ms 12 g rate x T b) .normal (vSL ms 13 g rate x (mvF1 F g.q rate ms x 12 (T,b)).1 (mvF1 F g.q rate ms x 12 (T,b)).2):=A0c hG (R4n F ms b g rate x T) (vlL ..) (vcL ..) rfl
theorem T4b:A0b Tryz.prog 130 vM (vSM ms 12 g mid x T X b) .normal (vSM ms 13 g mid x T (mvF2 F mid x T 12 (X,b)).1 (mvF2 F mid x T 12 (X,b)).2):=A0c hG (R4t F ms b g x T X mid) (vlM ..) (vcM ..) rfl
theorem R4y:A0b Tryz.prog 130 vL (vSL ms 13 g rate x T b) (.exit 0) (vSX ms g rate x T b):=A0c hG (R4p F ms b g rate x T) (vlL ..) (vcX ..) rfl
theorem T4c:A0b Tryz.prog 130 vM (vSM ms 13 g mid x T X b) (.exit 4) (vSY ms g mid X b):=A0c hG (R4u F ms b g x T X mid) (vlM ..) (vcY ..) rfl
theorem Q5t:A0b Tryz.prog 130 (.block 0 (.loop vL)) (vSL ms 0 g rate x T b) .normal (vSX ms g rate x (A0k (mvF1 F g.q rate ms x) 0 13 (T,b)).1 (A0k (mvF1 F g.q rate ms x) 0 13 (T,b)).2) :=
 A0b.rounds (P:=Tryz.prog) (N:=130) (c:=vL) (id:=0) 13 (fun k z=>vSL ms k g rate x z.1 z.2) (fun z=>vSX ms g rate x z.1 z.2) (mvF1 F g.q rate ms x)
  (fun k z hk=>match k,hk with
   | 0,_=>R5u hG ms z.2 g rate x z.1
   | 1,_=>R5v hG ms z.2 g rate x z.1
   | 2,_=>R5w hG ms z.2 g rate x z.1
   | 3,_=>R5x hG ms z.2 g rate x z.1
   | 4,_=>R5y hG ms z.2 g rate x z.1
   | 5,_=>R5z hG ms z.2 g rate x z.1
   | 6,_=>T5a hG ms z.2 g rate x z.1
   | 7,_=>T5b hG ms z.2 g rate x z.1
   | 8,_=>T5c hG ms z.2 g rate x z.1
   | 9,_=>T5d hG ms z.2 g rate x z.1
   | 10,_=>R4v hG ms z.2 g rate x z.1
   | 11,_=>R4w hG ms z.2 g rate x z.1
   | 12,_=>R4x hG ms z.2 g rate x z.1
   | n+13,h=>absurd h (by omega))
  (fun z=>R4y hG ms z.2 g rate x z.1) (T,b)
theorem Q5u:A0b Tryz.prog 130 (.block 4 (.loop vM)) (vSM ms 0 g mid x T X b) .normal (vSY ms g mid (A0k (mvF2 F mid x T) 0 13 (X,b)).1 (A0k (mvF2 F mid x T) 0 13 (X,b)).2) :=
 A0b.rounds (P:=Tryz.prog) (N:=130) (c:=vM) (id:=4) 13 (fun k z=>vSM ms k g mid x T z.1 z.2) (fun z=>vSY ms g mid z.1 z.2) (mvF2 F mid x T)
  (fun k z hk=>match k,hk with
   | 0,_=>T5e hG ms z.2 g x T z.1 mid
   | 1,_=>T5g hG ms z.2 g x T z.1 mid
   | 2,_=>T5h hG ms z.2 g x T z.1 mid
   | 3,_=>T5j hG ms z.2 g x T z.1 mid
   | 4,_=>T5k hG ms z.2 g x T z.1 mid
   | 5,_=>T5m hG ms z.2 g x T z.1 mid
   | 6,_=>T5n hG ms z.2 g x T z.1 mid
   | 7,_=>T5p hG ms z.2 g x T z.1 mid
   | 8,_=>T5q hG ms z.2 g x T z.1 mid
   | 9,_=>T5r hG ms z.2 g x T z.1 mid
   | 10,_=>R4z hG ms z.2 g x T z.1 mid
   | 11,_=>T4a hG ms z.2 g x T z.1 mid
   | 12,_=>T4b hG ms z.2 g x T z.1 mid
   | n+13,h=>absurd h (by omega))
  (fun z=>T4c hG ms z.2 g x T z.1 mid) (X,b)
end
def L2g(ms:Int)(b:Bool):Bool:=bif decide (ms<10) then true else bif decide (ms>10000) then true else b
def W0z(F:FOps)(b:Bool)(a:Gs×V3×Int×Unit):Gs×Bool :=
 let x:=F.pt (L2g a.2.2.1 b) (a.1,())
 let r:=F.vs x.2 (a.2.1,a.1.bias,())
 let z:=A0k (mvF1 F a.1.q r.1 a.2.2.1 x.1) 0 13 (mx0,r.2)
 let mid:=F.un z.2 (v4of (z.1 0),())
 let y:=A0k (mvF2 F mid.1 x.1 z.1) 0 13 (x.1.at,mid.2)
 let c:=F.cen y.2 (N0r y.1)
 let p:=F.pro c.2 c.1.x c.1.x
 let n:=mv3 F a.2.2.1 p.1 p.2
 let s:=F.st n.2 (mid.1,a.1.bias,c.1.m,n.1,())
 (s.1.a,s.2)
theorem L2h{F:FOps}(hG:GamOk Tryz.prog (eM F).gam)(b:Bool)(a:Gs×V3×Int×Unit):A0b Tryz.prog 130 vC (B0t 130 (.ptr 0 0 :: Args.encs a) (row 57 b)) .ret (vS29 (W0z F b a).1 (W0z F b a).2):=by
 obtain ⟨g,rate,ms,_⟩:=a
 have hc:vC=.seq v0 (.seq v1 (.seq v3 (.seq v4 (.seq v5 (.seq (.seq v6 (.block 0 (.loop vL))) (.seq v18 (.seq (.seq v19 (.block 4 (.loop vM))) (.seq v25 (.seq v26 (.seq v27 (.seq v28 v29))))))))))):=by
  unfold vC
  rw[R4j]
  rfl
 rw[hc]
 have h1:A0b Tryz.prog 130 v1 (vS0 ms b g rate) .normal (vS0 ms (L2g ms b) g rate):=by
  refine A0a hG ((vq1 F ms b g rate).trans ?_)
  unfold L2g
  cases decide (ms<10)<;>cases decide (ms>10000)<;>rfl
 unfold W0z
 dsimp only
 have h3:=A0a hG (vq3 F ms (L2g ms b) g rate)
 generalize F.pt (L2g ms b) (g,())=x at h3 ⊢
 have h4:=A0a hG (vq4 F ms x.2 g rate x.1)
 generalize F.vs x.2 (rate,g.bias,())=r at h4 ⊢
 have h5:=A0a hG (vq5 F ms r.2 g r.1 x.1)
 have h6:=(A0a hG (vq6 F ms r.2 g r.1 x.1)).seq (Q5t hG ms r.2 g r.1 x.1 mx0)
 generalize A0k (mvF1 F g.q r.1 ms x.1) 0 13 (mx0,r.2)=z at h6 ⊢
 have h18:=A0a hG (vq18 F ms z.2 g r.1 x.1 z.1)
 generalize F.un z.2 (v4of (z.1 0),())=mid at h18 ⊢
 have h19:=(A0a hG (vq19 F ms mid.2 g x.1 z.1 mid.1)).seq (Q5u hG ms mid.2 g x.1 z.1 x.1.at mid.1)
 generalize A0k (mvF2 F mid.1 x.1 z.1) 0 13 (x.1.at,mid.2)=y at h19 ⊢
 have h25:=A0a hG (vq25 F ms y.2 g y.1 mid.1)
 generalize F.cen y.2 (N0r y.1)=c at h25 ⊢
 have h26:=A0a hG (vq26 F ms c.2 g c.1.x mid.1 c.1.m)
 generalize F.pro c.2 c.1.x c.1.x=p at h26 ⊢
 have h27:=A0a hG (vq27 F ms p.2 g c.1.x mid.1 c.1.m p.1)
 generalize mv3 F ms p.1 p.2=n at h27 ⊢
 have h28:=A0a hG (vq28 F ms n.2 g c.1.x mid.1 c.1.m n.1)
 generalize F.st n.2 (mid.1,g.bias,c.1.m,n.1,())=s at h28 ⊢
 have h29:=A0a hG (vq29 F s.2 s.1.a)
 exact (A0a hG (vq0 F ms b g rate)).seq (h1.seq (h3.seq (h4.seq (h5.seq (h6.seq (h18.seq (h19.seq (h25.seq (h26.seq (h27.seq (h28.seq h29)))))))))))
theorem A4j:Tryz.prog.funcs[49]?=some Tryz.f49:=by kernel_rfl
theorem L4d{F:FOps}(hG:GamOk Tryz.prog (eM F).gam):A0h Tryz.prog 49 (S 57 (W0z F)):=by
 intro args cs r cs' h
 obtain ⟨b,a,rfl,rfl,rfl,rfl⟩:=C2y h
 obtain ⟨g,rate,ms,u⟩:=a
 refine E0k A4j (c:=vC) (by unfold vC;rw[R4j];rfl) vN (by show 4≤130;omega) (by simp[row]) rfl rfl rfl (.inr rfl) (L2h hG b (g,rate,ms,u)) (vR ..) rfl rfl (fun b' c hb=>?_) rfl rfl
 match b',hb with
 | 0,hb=>cases hb;rfl
 | n+1,hb=>simp[row]at hb
end Go.Ab
