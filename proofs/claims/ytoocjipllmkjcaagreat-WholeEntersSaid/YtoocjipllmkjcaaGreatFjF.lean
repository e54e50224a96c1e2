/- A part of the proof of 'CraftHolds': lemmas, no statement of their own; no condition. -/
import Derived.Test.YtoocjipllmkjcaaGreatFjE
import Derived.Test.YtoocjipllmkjcaaGreatGTrB
namespace Go.Ab
open Go Go.Proofs
structure GOps where
 o:Ops
 vu:Bool→V3×Unit→V3×Bool
 tu:TFun
 qt:Bool→V4×V3×Unit→V3×Bool
 pt:Bool→Gs×Unit→X13×Bool
 cen:CFun
 pro:PFun
 ont:OFun
 rt:Bool→M6×Int×Unit→M6×Bool
 so:Bool→M6×R6×Int×Unit→R6×Bool
 ap:Bool→M6×R6×Int×Unit→R6×Bool
 st:Bool→V4×V3×R6×M6×Unit→Two Gs Bool×Bool
def C5b(F:GOps):Gam:=[(51,S 57 F.vu),(54,S 57 F.tu),(56,S 57 F.qt),(52,S 57 F.pt),(57,ctrS F.cen),(58,prdS F.pro),(59,ontS F.ont),(61,S 57 F.rt),(62,S 57 F.so),(67,S 57 F.ap),(66,S 57 F.st),(53,S0 fun (p:R6×Unit)=>D0m p.1),(55,S0 fun (p:V3×V3×Unit)=>W0w p.1 p.2.1),(63,S 57 (op2 F.o.add)),(60,S 57 (op2 F.o.sub)),(64,S 57 (op2 F.o.mul)),(65,S 57 (op3 F.o.part))]
abbrev eE(F:GOps):Env:={gam:=C5b F}
def P2.av(p:P2):List AV:=p.a.av++p.b.av
noncomputable def wT0:Code:=Tryz.f21.body.getD .skip
noncomputable def w0:Code:=(seqL wT0)
noncomputable def wT1:Code:=seqR wT0
noncomputable def w1:Code:=seqL (seqL wT1)
noncomputable def wA:Code:=inB (inB (seqR (seqL wT1)))
noncomputable def wT2:Code:=seqR wT1
noncomputable def w6:Code:=(seqL wT2)
noncomputable def wT3:Code:=seqR wT2
noncomputable def w7:Code:=(seqL wT3)
noncomputable def wT4:Code:=seqR wT3
noncomputable def w8:Code:=seqL (seqL wT4)
noncomputable def wB:Code:=inB (inB (seqR (seqL wT4)))
noncomputable def wT5:Code:=seqR wT4
noncomputable def w15:Code:=(seqL wT5)
noncomputable def wT6:Code:=seqR wT5
noncomputable def w16:Code:=(seqL wT6)
noncomputable def wT7:Code:=seqR wT6
noncomputable def w17:Code:=(seqL wT7)
noncomputable def wT8:Code:=seqR wT7
noncomputable def w18:Code:=(seqL wT8)
noncomputable def wT9:Code:=seqR wT8
noncomputable def w19:Code:=seqL (seqL wT9)
noncomputable def wD:Code:=inB (inB (seqR (seqL wT9)))
noncomputable def wT10:Code:=seqR wT9
noncomputable def w24:Code:=(seqL wT10)
noncomputable def wT11:Code:=seqR wT10
noncomputable def w25:Code:=(seqL wT11)
noncomputable def wT12:Code:=seqR wT11
noncomputable def w26:Code:=seqL (seqL wT12)
noncomputable def wE:Code:=inB (inB (seqR (seqL wT12)))
noncomputable def wT13:Code:=seqR wT12
noncomputable def w31:Code:=(seqL wT13)
noncomputable def wT14:Code:=seqR wT13
noncomputable def w33:Code:=(seqL wT14)
noncomputable def wT15:Code:=seqR wT14
noncomputable def w35:Code:=(seqL wT15)
noncomputable def wT16:Code:=seqR wT15
noncomputable def w36:Code:=seqL (seqL wT16)
noncomputable def wF:Code:=inB (inB (seqR (seqL wT16)))
noncomputable def wT17:Code:=seqR wT16
noncomputable def w41:Code:=seqL (seqL wT17)
noncomputable def wG:Code:=inB (inB (seqR (seqL wT17)))
noncomputable def wT18:Code:=seqR wT17
noncomputable def w56:Code:=seqL (seqL wT18)
noncomputable def wH:Code:=inB (inB (seqR (seqL wT18)))
noncomputable def wT19:Code:=seqR wT18
noncomputable def w65:Code:=(seqL wT19)
noncomputable def wT20:Code:=seqR wT19
noncomputable def w66:Code:=(seqL wT20)
noncomputable def wT21:Code:=seqR wT20
noncomputable def w68:Code:=wT21
theorem T4d:Tryz.f21.body=some (.seq w0 (.seq (.seq w1 (.block 0 (.loop wA))) (.seq w6 (.seq w7 (.seq (.seq w8 (.block 2 (.loop wB))) (.seq w15 (.seq w16 (.seq w17 (.seq w18 (.seq (.seq w19 (.block 4 (.loop wD))) (.seq w24 (.seq w25 (.seq (.seq w26 (.block 6 (.loop wE))) (.seq w31 (.seq w33 (.seq w35 (.seq (.seq w36 (.block 8 (.loop wF))) (.seq (.seq w41 (.block 10 (.loop wG))) (.seq (.seq w56 (.block 16 (.loop wH))) (.seq w65 (.seq w66 w68))))))))))))))))))))):=by kernel_rfl
noncomputable def wGa:Code:=seqL wG
noncomputable def wGb:Code:=seqL (seqR wG)
noncomputable def wGi:Code:=inB (seqL (seqR (seqR wG)))
noncomputable def w43:Code:=seqL wGi
noncomputable def w44:Code:=seqL (seqR wGi)
noncomputable def wGL:Code:=inB (inB (seqR (seqR wGi)))
noncomputable def w55:Code:=seqR (seqR (seqR wG))
theorem C2e:wG=.seq wGa (.seq wGb (.seq (.block 11 (.seq w43 (.seq w44 (.block 12 (.loop wGL))))) w55)):=by kernel_rfl
theorem wN:Tryz.f21.ntmps=248:=by kernel_rfl
abbrev nK:Nat:=4096+10*2^180
abbrev nL:Nat:=4096+11*2^180
abbrev nM:Nat:=4096+12*2^180
abbrev nN:Nat:=4096+13*2^180
abbrev nO:Nat:=4096+14*2^180
abbrev nP:Nat:=4096+15*2^180
def wS0(g:Gs)(sky body:P2)(b:Bool):St:=gSt 248 [(0,.ptr 0 0),(5,.ptr nA 0),(6,.ptr nB 0),(7,.ptr nC 0),(8,.ptr nD 0)] [(0,.row 57 [.val (.bool b)]),(nA,.row 42 g.av),(nB,.row 54 sky.av),(nC,.row 54 body.av),(nD,.row 42 Gs.zero.av)] nE
def wSA(i:Int)(g:Gs)(sky body:P2)(b:Bool):St:=gSt 248 [(0,.ptr 0 0),(5,.ptr nA 0),(6,.ptr nB 0),(7,.ptr nC 0),(8,.ptr nD 0),(40,.val (.int .i64 i))] [(0,.row 57 [.val (.bool b)]),(nA,.row 42 g.av),(nB,.row 54 sky.av),(nC,.row 54 body.av),(nD,.row 42 Gs.zero.av)] nE
def wS6(g:Gs)(sky body:P2)(x:X13)(b:Bool):St:=gSt 248 [(0,.ptr 0 0),(5,.ptr nA 0),(6,.ptr nB 0),(7,.ptr nC 0),(8,.ptr nD 0),(12,.ptr nE 0)] [(0,.row 57 [.val (.bool b)]),(nA,.row 42 g.av),(nB,.row 54 sky.av),(nC,.row 54 body.av),(nD,.row 42 Gs.zero.av),(nE,.row 112 x.av)] nF
def wS7(g:Gs)(sky body:P2)(x:X13)(z:Mx)(b:Bool):St:=gSt 248 [(0,.ptr 0 0),(5,.ptr nA 0),(6,.ptr nB 0),(7,.ptr nC 0),(8,.ptr nD 0),(12,.ptr nE 0),(13,.ptr nF 0)] [(0,.row 57 [.val (.bool b)]),(nA,.row 42 g.av),(nB,.row 54 sky.av),(nC,.row 54 body.av),(nD,.row 42 Gs.zero.av),(nE,.row 112 x.av),(nF,.row 112 (C0d z))] nG
def wSB(k:Int)(g:Gs)(sky body:P2)(x:X13)(z:Mx)(b:Bool):St:=gSt 248 [(0,.ptr 0 0),(5,.ptr nA 0),(6,.ptr nB 0),(7,.ptr nC 0),(8,.ptr nD 0),(12,.ptr nE 0),(13,.ptr nF 0),(61,.val (Cod.enc x)),(62,.val (.int .i64 k))] [(0,.row 57 [.val (.bool b)]),(nA,.row 42 g.av),(nB,.row 54 sky.av),(nC,.row 54 body.av),(nD,.row 42 Gs.zero.av),(nE,.row 112 x.av),(nF,.row 112 (C0d z))] nG
def wS15(g:Gs)(body:P2)(x z:X13)(m:R6)(b:Bool):St:=gSt 248 [(0,.ptr 0 0),(5,.ptr nA 0),(7,.ptr nC 0),(8,.ptr nD 0),(12,.ptr nE 0),(13,.ptr nF 0),(19,.ptr nG 0)] [(0,.row 57 [.val (.bool b)]),(nA,.row 42 g.av),(nC,.row 54 body.av),(nD,.row 42 Gs.zero.av),(nE,.row 112 x.av),(nF,.row 112 z.av),(nG,.row 38 m.av)] nH
def wS16(g:Gs)(body:P2)(m:R6)(s c:M6)(b:Bool):St:=gSt 248 [(0,.ptr 0 0),(5,.ptr nA 0),(7,.ptr nC 0),(8,.ptr nD 0),(19,.ptr nG 0),(20,.ptr nH 0),(21,.ptr nI 0)] [(0,.row 57 [.val (.bool b)]),(nA,.row 42 g.av),(nC,.row 54 body.av),(nD,.row 42 Gs.zero.av),(nG,.row 38 m.av),(nH,.row 40 s.av),(nI,.row 40 c.av)] nJ
def wS18(g:Gs)(m:R6)(s c:M6)(y:Nat→Int)(b:Bool):St:=gSt 248 [(0,.ptr 0 0),(5,.ptr nA 0),(8,.ptr nD 0),(19,.ptr nG 0),(20,.ptr nH 0),(21,.ptr nI 0),(22,.ptr nJ 0)] [(0,.row 57 [.val (.bool b)]),(nA,.row 42 g.av),(nD,.row 42 Gs.zero.av),(nG,.row 38 m.av),(nH,.row 40 s.av),(nI,.row 40 c.av),(nJ,.row 38 (ints 6 y))] nK
def wSD(i:Int)(g:Gs)(m:R6)(s c:M6)(y:Nat→Int)(b:Bool):St:=gSt 248 [(0,.ptr 0 0),(5,.ptr nA 0),(8,.ptr nD 0),(19,.ptr nG 0),(20,.ptr nH 0),(21,.ptr nI 0),(22,.ptr nJ 0),(103,.val (.int .i64 i))] [(0,.row 57 [.val (.bool b)]),(nA,.row 42 g.av),(nD,.row 42 Gs.zero.av),(nG,.row 38 m.av),(nH,.row 40 s.av),(nI,.row 40 c.av),(nJ,.row 38 (ints 6 y))] nK
def wS24(g:Gs)(c:M6)(y:R6)(l:M6)(b:Bool):St:=gSt 248 [(0,.ptr 0 0),(5,.ptr nA 0),(8,.ptr nD 0),(21,.ptr nI 0),(22,.ptr nJ 0),(24,.ptr nK 0)] [(0,.row 57 [.val (.bool b)]),(nA,.row 42 g.av),(nD,.row 42 Gs.zero.av),(nI,.row 40 c.av),(nJ,.row 38 y.av),(nK,.row 40 l.av)] nL
def wS25(g:Gs)(c:M6)(y:R6)(l:M6)(chi:Int)(b:Bool):St:=gSt 248 [(0,.ptr 0 0),(5,.ptr nA 0),(8,.ptr nD 0),(21,.ptr nI 0),(22,.ptr nJ 0),(24,.ptr nK 0),(25,.val (.int .i64 chi))] [(0,.row 57 [.val (.bool b)]),(nA,.row 42 g.av),(nD,.row 42 Gs.zero.av),(nI,.row 40 c.av),(nJ,.row 38 y.av),(nK,.row 40 l.av)] nL
def wSE(i:Int)(g:Gs)(c:M6)(y:R6)(l:M6)(u:R6)(chi:Int)(b:Bool):St:=gSt 248 [(0,.ptr 0 0),(5,.ptr nA 0),(8,.ptr nD 0),(21,.ptr nI 0),(22,.ptr nJ 0),(24,.ptr nK 0),(25,.val (.int .i64 chi)),(123,.val (Cod.enc u)),(124,.val (.int .i64 i))] [(0,.row 57 [.val (.bool b)]),(nA,.row 42 g.av),(nD,.row 42 Gs.zero.av),(nI,.row 40 c.av),(nJ,.row 38 y.av),(nK,.row 40 l.av)] nL
def wS35(g:Gs)(c:M6)(y:R6)(l:M6)(chi:Int)(k T p:Mx)(b:Bool):St:=gSt 248 [(0,.ptr 0 0),(5,.ptr nA 0),(8,.ptr nD 0),(21,.ptr nI 0),(22,.ptr nJ 0),(24,.ptr nK 0),(25,.val (.int .i64 chi)),(28,.ptr nL 0),(29,.ptr nM 0),(30,.ptr nN 0)] [(0,.row 57 [.val (.bool b)]),(nA,.row 42 g.av),(nD,.row 42 Gs.zero.av),(nI,.row 40 c.av),(nJ,.row 38 y.av),(nK,.row 40 l.av),(nL,.row 40 (B0e k)),(nM,.row 40 (B0e T)),(nN,.row 40 (B0e p))] nO
def wSF(i:Int)(g:Gs)(c:M6)(y:R6)(l:M6)(chi:Int)(k T p:Mx)(b:Bool):St:=gSt 248 [(0,.ptr 0 0),(5,.ptr nA 0),(8,.ptr nD 0),(21,.ptr nI 0),(22,.ptr nJ 0),(24,.ptr nK 0),(25,.val (.int .i64 chi)),(28,.ptr nL 0),(29,.ptr nM 0),(30,.ptr nN 0),(151,.val (.int .i64 i))] [(0,.row 57 [.val (.bool b)]),(nA,.row 42 g.av),(nD,.row 42 Gs.zero.av),(nI,.row 40 c.av),(nJ,.row 38 y.av),(nK,.row 40 l.av),(nL,.row 40 (B0e k)),(nM,.row 40 (B0e T)),(nN,.row 40 (B0e p))] nO
def wSG(i:Int)(g:Gs)(c:M6)(y:R6)(l:M6)(chi:Int)(k T p:Mx)(b:Bool):St:=gSt 248 [(0,.ptr 0 0),(5,.ptr nA 0),(8,.ptr nD 0),(21,.ptr nI 0),(22,.ptr nJ 0),(24,.ptr nK 0),(25,.val (.int .i64 chi)),(28,.ptr nL 0),(29,.ptr nM 0),(30,.ptr nN 0),(163,.val (.int .i64 i))] [(0,.row 57 [.val (.bool b)]),(nA,.row 42 g.av),(nD,.row 42 Gs.zero.av),(nI,.row 40 c.av),(nJ,.row 38 y.av),(nK,.row 40 l.av),(nL,.row 40 (B0e k)),(nM,.row 40 (B0e T)),(nN,.row 40 (B0e p))] nO
def wSg(i:Int)(g:Gs)(c:M6)(y:R6)(l:M6)(chi:Int)(k T p:Mx)(b:Bool):St:=gSt 248 [(0,.ptr 0 0),(5,.ptr nA 0),(8,.ptr nD 0),(21,.ptr nI 0),(22,.ptr nJ 0),(24,.ptr nK 0),(25,.val (.int .i64 chi)),(28,.ptr nL 0),(29,.ptr nM 0),(30,.ptr nN 0),(163,.val (.int .i64 i)),(164,.val (.bool true))] [(0,.row 57 [.val (.bool b)]),(nA,.row 42 g.av),(nD,.row 42 Gs.zero.av),(nI,.row 40 c.av),(nJ,.row 38 y.av),(nK,.row 40 l.av),(nL,.row 40 (B0e k)),(nM,.row 40 (B0e T)),(nN,.row 40 (B0e p))] nO
def wSx(i:Int)(g:Gs)(c:M6)(y:R6)(l:M6)(chi:Int)(k T p:Mx)(b:Bool):St:=gSt 248 [(0,.ptr 0 0),(5,.ptr nA 0),(8,.ptr nD 0),(21,.ptr nI 0),(22,.ptr nJ 0),(24,.ptr nK 0),(25,.val (.int .i64 chi)),(28,.ptr nL 0),(29,.ptr nM 0),(30,.ptr nN 0),(32,.val (.int .i64 i)),(163,.val (.int .i64 i))] [(0,.row 57 [.val (.bool b)]),(nA,.row 42 g.av),(nD,.row 42 Gs.zero.av),(nI,.row 40 c.av),(nJ,.row 38 y.av),(nK,.row 40 l.av),(nL,.row 40 (B0e k)),(nM,.row 40 (B0e T)),(nN,.row 40 (B0e p))] nO
def wSJ(i j:Int)(g:Gs)(c:M6)(y:R6)(l:M6)(chi:Int)(k T p:Mx)(b:Bool):St:=gSt 248 [(0,.ptr 0 0),(5,.ptr nA 0),(8,.ptr nD 0),(21,.ptr nI 0),(22,.ptr nJ 0),(24,.ptr nK 0),(25,.val (.int .i64 chi)),(28,.ptr nL 0),(29,.ptr nM 0),(30,.ptr nN 0),(32,.val (.int .i64 i)),(163,.val (.int .i64 i)),(166,.val (.int .i64 j))] [(0,.row 57 [.val (.bool b)]),(nA,.row 42 g.av),(nD,.row 42 Gs.zero.av),(nI,.row 40 c.av),(nJ,.row 38 y.av),(nK,.row 40 l.av),(nL,.row 40 (B0e k)),(nM,.row 40 (B0e T)),(nN,.row 40 (B0e p))] nO
def wSH(i:Int)(g:Gs)(c:M6)(y:R6)(l:M6)(chi:Int)(k T p:Mx)(b:Bool):St:=gSt 248 [(0,.ptr 0 0),(5,.ptr nA 0),(8,.ptr nD 0),(21,.ptr nI 0),(22,.ptr nJ 0),(24,.ptr nK 0),(25,.val (.int .i64 chi)),(28,.ptr nL 0),(29,.ptr nM 0),(30,.ptr nN 0),(203,.val (.int .i64 i))] [(0,.row 57 [.val (.bool b)]),(nA,.row 42 g.av),(nD,.row 42 Gs.zero.av),(nI,.row 40 c.av),(nJ,.row 38 y.av),(nK,.row 40 l.av),(nL,.row 40 (B0e k)),(nM,.row 40 (B0e T)),(nN,.row 40 (B0e p))] nO
def wS65(chi:Int)(ok:Bool)(g:Gs)(b:Bool):St:=gSt 248 [(0,.ptr 0 0),(8,.ptr nD 0),(25,.val (.int .i64 chi)),(38,.ptr nO 0),(39,.val (.bool ok))] [(0,.row 57 [.val (.bool b)]),(nD,.row 42 Gs.zero.av),(nO,.row 42 g.av)] nP
def wR(g:Gs)(chi:Int)(ok:Bool)(b:Bool):St:=gSt 248 [(0,.ptr 0 0),(8,.ptr nD 0),(9,.val (.int .i64 chi)),(10,.val (.bool ok))] [(0,.row 57 [.val (.bool b)]),(nD,.row 42 g.av)] nL
def wR2(g:Gs)(chi:Int)(ok:Bool)(b:Bool):St:=gSt 248 [(0,.ptr 0 0),(8,.ptr nD 0),(9,.val (.int .i64 chi)),(10,.val (.bool ok))] [(0,.row 57 [.val (.bool b)]),(nD,.row 42 g.av)] nP
def meA0(F:GOps)(sky body:P2)(b:Bool):(P2×P2)×Bool :=
 let p:=F.vu b (sky.a,())
 let q:=F.vu p.2 (body.a,())
 ((⟨p.1,sky.b⟩,⟨q.1,body.b⟩),q.2)
def meA1(F:GOps)(sky body:P2)(b:Bool):(P2×P2)×Bool :=
 let p:=F.vu b (sky.b,())
 let q:=F.vu p.2 (body.b,())
 ((⟨sky.a,p.1⟩,⟨body.a,q.1⟩),q.2)
def meB(F:GOps)(q:V4)(sky:P2)(r:R6)(b:Bool):R6×Bool :=
 let a:=F.tu b ((D0m r).a,q,())
 let p:=F.qt a.2 (a.1,sky.a,())
 let e:=F.qt p.2 (a.1,sky.b,())
 (W0w p.1 e.1,e.2)
def meE(F:GOps)(chi p q:Int)(b:Bool):Int×Bool :=
 let n:=F.o.mul b p q
 F.o.add n.2 chi n.1
def meS(o:Ops)(u v:Nat→Int):Nat→Nat→Int×Bool→Int×Bool
 | _,0,s=>s
 | a,n+1,s=>meS o u v (a+1) n (let n:=o.mul s.2 (u a) (v a);o.add n.2 s.1 n.1)
def meT(F:GOps)(P:Mx)(k c:Mx)(i j:Nat)(b:Bool):Int×Bool :=
 let s:=meS F.o (k i) (c j) 0 6 (0,b)
 F.o.sub s.2 (P i j) s.1
def meH(o:Ops)(T:Mx)(i:Nat):Nat→Nat→Mx×Bool→Mx×Bool
 | _,0,s=>s
 | j,n+1,s=>meH o T i (j+1) n (let a:=o.add s.2 (T i j) (T j i);let h:=o.part a.2 a.1 1 2;(setM s.1 i j h.1,h.2))
def meZ(F:GOps)(g:Gs)(y:R6)(k p:Mx)(b:Bool):Two Gs Bool×Bool :=
 let a:=F.ap b (M6.of k,y,6,())
 F.st a.2 (g.q,g.bias,a.1,M6.of p,())
end Go.Ab
