/- A part of the proofs: lemmas, no statement of their own; no condition. -/
import Derived.Test.YtoocjipllmkjcaaGreatGRtF
import Derived.Test.YtoocjipllmkjcaaGreatGMoL
set_option linter.unusedSimpArgs false
namespace Go.Ab
open Go Go.Proofs
def neg4(q:V4):V4:=⟨IntKind.i64.wrap (0-q.w),IntKind.i64.wrap (0-q.x),IntKind.i64.wrap (0-q.y),IntKind.i64.wrap (0-q.z)⟩
def plain(q:V4):V4:=bif decide (q.z<0) then neg4 q else q
def V0m(o:Ops)(q:V4)(n:Int)(f:Bool):V4×Bool :=
 let a:=o.div f q.w n
 let b:=o.div a.2 q.x n
 let c:=o.div b.2 q.y n
 let d:=o.div c.2 q.z n
 (⟨a.1,b.1,c.1,d.1⟩,d.2)
def qlen(o:Ops)(b:Bool)(q:V4):Int×Bool:=o.norm (o.norm b q.w q.x q.y).2 (o.norm b q.w q.x q.y).1 q.z 0
def C1a(o:Ops)(q:V4)(n:Int)(f:Bool):V4×Bool:=(plain (V0m o q n f).1,(V0m o q n f).2)
def E0p(o:Ops)(b:Bool)(p:V4×Unit):V4×Bool:=C1a o p.1 (qlen o b p.1).1 (bif decide ((qlen o b p.1).1<549755813888) then true else (qlen o b p.1).2)
def P2p(o:Ops)(e:TypeId)(q:V4)(n:Int)(f:Bool):Option (AV×List Con) :=
 bif decide ((V0m o q n f).1.z<0) then some (.val (Cod.enc (neg4 (V0m o q n f).1)),row e (V0m o q n f).2) else some (.val (Cod.enc (V0m o q n f).1),row e (V0m o q n f).2)
theorem Q1n(o:Ops)(e:TypeId)(q:V4)(n:Int)(f:Bool):P2p o e q n f=some (.val (Cod.enc (C1a o q n f).1),row e (C1a o q n f).2):=pull
theorem R4h(o:Ops)(b:Bool)(q:V4):fnSum Tryz.prog {gam:=gamN o} [] 20 133 [.ptr 0 0,.val (Cod.enc q)] (row 57 b) =
  bif decide ((qlen o b q).1<549755813888) then P2p o 57 q (qlen o b q).1 true else P2p o 57 q (qlen o b q).1 (qlen o b q).2:=by kernel_rfl
theorem ok72:A0h Tryz.prog 133 (S 57 (E0p opsF)):=S_ok A0u 20 fun b a=>by
 refine (R4h opsF b a.1).trans ?_
 rw[Q1n,Q1n]
 exact P2n (F:=C1a opsF a.1 (qlen opsF b a.1).1)
theorem N0c(a b c:Int):E0g true a b c=(0,true):=rfl
theorem P3u{b:Bool}{q:V4}{n:Int}(h:qlen opsF b q=(n,false)):b=false∧(num q.w=true∧num q.x=true∧num q.y=true∧num q.z=true) ∧
  (-n≤q.w∧q.w≤n)∧(-n≤q.x∧q.x≤n)∧(-n≤q.y∧q.y≤n)∧(-n≤q.z∧q.z≤n)∧0≤n∧n≤4611686018427387904:=by
 unfold qlen at h
 simp only[opsF]at h
 cases b with
 | true=>rw[N0c]at h;exact absurd h (by rw[N0c];simp)
 | false =>
  rcases hm:E0g false q.w q.x q.y with ⟨m,f⟩
  rw[hm]at h
  cases f with
  | true=>exact absurd h (by rw[N0c];simp)
  | false =>
   obtain ⟨a1,a2,a3,_,a4,a5⟩:=U0q hm
   obtain ⟨p1,p2,p3⟩:=T0h hm
   obtain ⟨b1,b2,b3,_,b4,b5⟩:=U0q h
   obtain ⟨r1,r2,r3⟩:=T0h h
   exact ⟨rfl,⟨a1,a2,a3,b2⟩,by omega,by omega,by omega,r2,b4,b5⟩
def G1j(o:Ops)(k e:Int)(x:Int)(f:Bool):Int×Bool:=o.div (o.mul f x k).2 (o.mul f x k).1 e
def rod0(o:Ops)(p:V3)(d e:Int)(f:Bool):V4×Bool :=
 let r:=P0e f (G1j o 8796093022208 e p.x) (G1j o 8796093022208 e p.y) (G1j o 8796093022208 e p.z)
 let s:=o.sub r.2 17592186044416 d
 let w:=o.div s.2 s.1 e
 (mk4 r.1 w.1,w.2)
def Z2c(o:Ops)(v:VOps)(b:Bool)(p:V3):V4×Bool :=
 let d:=v.dot b (p,p,())
 let e:=o.add d.2 17592186044416 d.1
 rod0 o p d.1 e.1 e.2
def J1q(o:Ops)(v:VOps)(un:Bool→V4×Unit→V4×Bool)(b:Bool)(p:V3×Unit):V4×Bool:=un (Z2c o v b p.1).2 ((Z2c o v b p.1).1,())
theorem L5w(o:Ops)(v:VOps)(un:Bool→V4×Unit→V4×Bool)(b:Bool)(p:V3):fnSum Tryz.prog {gam:=(133,S 57 un) :: G2w o v} [] 20 142 [.ptr 0 0,.val (Cod.enc p)] (row 57 b) =
  some (.val (Cod.enc (J1q o v un b (p,())).1),row 57 (J1q o v un b (p,())).2):=by kernel_rfl
def add4(o:Ops)(q:V4)(b:Bool):Bool:=(o.add (o.add (o.add (o.add b q.w 0).2 q.x 0).2 q.y 0).2 q.z 0).2
def D1d(o:Ops)(q:V4)(f:Bool):V3×Bool :=
 let e:=o.add f 1099511627776 q.z
 P0e e.2 (G1j o 4398046511104 e.1 q.w) (G1j o 4398046511104 e.1 q.x) (G1j o 4398046511104 e.1 q.y)
def T2e(o:Ops)(e:TypeId)(q:V4)(f:Bool):Option (AV×List Con) :=
 bif (D1d o q f).2 then some (.val (Cod.enc V3.zero),row e (D1d o q f).2) else some (.val (Cod.enc (D1d o q f).1),row e (D1d o q f).2)
theorem R1d(o:Ops)(e:TypeId)(q:V4)(f:Bool):T2e o e q f=some (.val (Cod.enc (P0d (D1d o q f)).1),row e (P0d (D1d o q f)).2):=pull
def T2b(o:Ops)(b:Bool)(p:V4×Unit):V3×Bool:=bif add4 o p.1 b then (V3.zero,add4 o p.1 b) else P0d (D1d o (plain p.1) (add4 o p.1 b))
def T2c(o:Ops)(e:TypeId)(q:V4)(b:Bool):Option (AV×List Con) :=
 bif add4 o q b then some (.val (Cod.enc V3.zero),row e (add4 o q b)) else bif decide (q.z<0) then T2e o e (neg4 q) (add4 o q b) else T2e o e q (add4 o q b)
theorem T2d(o:Ops)(e:TypeId)(q:V4)(b:Bool):T2c o e q b=some (.val (Cod.enc (T2b o b (q,())).1),row e (T2b o b (q,())).2):=by
 unfold T2c T2b plain
 rw[R1d,R1d]
 dsimp only
 cases add4 o q b<;>cases decide (q.z<0)<;>rfl
theorem R3v(o:Ops)(b:Bool)(q:V4):fnSum Tryz.prog {gam:=gamN o} [] 20 134 [.ptr 0 0,.val (Cod.enc q)] (row 57 b)=T2c o 57 q b:=by kernel_rfl
theorem ok80:A0h Tryz.prog 142 (S 57 (J1q opsF E0b (E0p opsF))):=S_ok (E:={gam:=(133,S 57 (E0p opsF)) :: G2w opsF E0b}) (.cons ok72 J1x) 20 fun b a=>L5w opsF E0b (E0p opsF) b a.1
theorem ok82:A0h Tryz.prog 134 (S 57 (T2b opsF)):=S_ok A0u 20 fun b a=>(R3v opsF b a.1).trans (T2d opsF 57 a.1 b)
structure W0b where
 o:Ops
 sn:Bool→Int×Unit→Int×Bool
 cs:Bool→Int×Unit→Int×Bool
 dy:Bool→Int×Unit→Int×Bool
 kp:Bool→Int×Int×Unit→Int×Bool
 ok:Orb×Unit→Bool
 rt:Int×Unit→Bool
structure PH where
 a:Int
 b:Int
 c:Int
 s:Int
 node:Int
def C3r(F:W0b)(f:Bool)(q:Orb)(tk:Int):PH×Bool :=
 let o:=F.o
 let d1:=F.dy f (tk,())
 let d2:=F.dy d1.2 (q.tk,())
 let d:=o.sub d2.2 d1.1 d2.1
 let n1:=o.div d.2 3271636820114455529 q.a
 let n2:=o.sqrt n1.2 n1.1
 let n:=o.div n2.2 n2.1 q.a
 let r1:=o.mul n.2 q.e q.e
 let r2:=o.sub r1.2 1099511627776 r1.1
 let r:=o.sqrt r2.2 r2.1
 let k1:=o.mul r.2 r.1 r.1
 let k2:=o.mul k1.2 q.a k1.1
 let k3:=o.div k2.2 7012835795048 k2.1
 let k4:=o.mul k3.2 k3.1 k3.1
 let k5:=o.mul k4.2 1785540935 k4.1
 let k:=o.mul k5.2 k5.1 n.1
 let s:=F.sn k.2 (q.i,())
 let c:=F.cs s.2 (q.i,())
 let t:=o.mul c.2 s.1 s.1
 let a1:=o.mul t.2 k.1 c.1
 let a2:=o.mul a1.2 a1.1 d.1
 let node:=o.sub a2.2 q.node a2.1
 let p1:=o.part node.2 t.1 5 2
 let p2:=o.sub p1.2 2199023255552 p1.1
 let p3:=o.mul p2.2 k.1 p2.1
 let p4:=o.mul p3.2 p3.1 d.1
 let peri:=o.add p4.2 q.peri p4.1
 let w1:=o.mul peri.2 k.1 r.1
 let w2:=o.part w1.2 t.1 3 2
 let w3:=o.sub w2.2 1099511627776 w2.1
 let w:=o.mul w3.2 w1.1 w3.1
 let x1:=o.add w.2 n.1 w.1
 let x2:=o.mul x1.2 x1.1 d.1
 let x3:=o.add x2.2 q.m x2.1
 let x4:=o.mod x3.2 x3.1 6908435304716
 let x:=F.kp x4.2 (x4.1,q.e,())
 let u1:=F.cs x.2 (x.1,())
 let u2:=o.sub u1.2 u1.1 q.e
 let u:=o.mul u2.2 q.a u2.1
 let v1:=o.mul u.2 q.a r.1
 let v2:=F.sn v1.2 (x.1,())
 let v:=o.mul v2.2 v1.1 v2.1
 let e:=E1b o F.sn F.cs v.2 (u.1,v.1,peri.1,())
 (⟨e.1.a,e.1.b,c.1,s.1,node.1⟩,e.2)
def P2e(F:W0b)(h:PH×Bool):V3×Bool :=
 let bc:=F.o.mul h.2 h.1.b h.1.c
 let e:=E1b F.o F.sn F.cs bc.2 (h.1.a,bc.1,h.1.node,())
 let z:=F.o.mul e.2 h.1.b h.1.s
 (⟨e.1.a,e.1.b,z.1⟩,z.2)
def plT(e:TypeId)(ok rt b:Bool)(r:V3×Bool):Option (AV×List Con) :=
 bif !ok then some (.val (Cod.enc V3.zero),row e true) else bif !rt then some (.val (Cod.enc V3.zero),row e true) else bif b then some (.val (Cod.enc V3.zero),row e b) else
  bif r.2 then some (.val (Cod.enc V3.zero),row e r.2) else some (.val (Cod.enc r.1),row e r.2)
def V2r(F:W0b):Gam:=(212,S0 F.ok) :: (181,S0 F.ok) :: (87,S0 F.rt) :: (94,S0 F.rt) :: (213,S 57 F.dy) :: (182,S 59 F.dy) :: (216,S 57 F.kp) :: (186,S 59 F.kp) :: (218,S 57 (E1b F.o F.sn F.cs)) :: gamS F.o F.sn F.cs
theorem Y2k(F:W0b)(b:Bool)(q:Orb)(tk:Int):fnSum Tryz.prog {gam:=V2r F} [] 20 168 [.ptr 0 0,.val (Cod.enc q),.val (.int .i64 tk)] (row 57 b) =
  plT 57 (F.ok (q,())) (F.rt (tk,())) b (P2e F (C3r F b q tk)):=by kernel_rfl
section
variable {F:W0b} (hm:∀x y,F.o.mul true x y=(0,true)) (ha:∀x y,F.o.add true x y=(0,true)) (hs:∀x y,F.o.sub true x y=(0,true)) (hc:∀p,F.cs true p=(0,true)) (hn:∀p,F.sn true p=(0,true))
include hm ha hs hc hn
end
def PF:W0b:={o:=opsF,sn:=sinV,cs:=cosV,dy:=E0r opsF,kp:=kepV,ok:=fun p=>V0e p.1,rt:=fun p=>A0z p.1}
def M4c(F:W0b)(b:Bool)(p:Orb×Int×Unit):V3×Bool :=
 bif !F.ok (p.1,()) then (V3.zero,true) else bif !F.rt (p.2.1,()) then (V3.zero,true) else bif b then (V3.zero,b) else P0d (P2e F (C3r F b p.1 p.2.1))
theorem M4b(e:TypeId)(ok rt b:Bool)(r:V3×Bool):plT e ok rt b r=some (.val (Cod.enc (bif !ok then (V3.zero,true) else bif !rt then (V3.zero,true) else bif b then (V3.zero,b) else P0d r).1),row e (bif !ok then (V3.zero,true) else bif !rt then (V3.zero,true) else bif b then (V3.zero,b) else P0d r).2):=by
 unfold plT P0d
 cases ok<;>cases rt<;>cases b<;>cases r.2<;>rfl
def C3t:Bool→Orb×Int×Unit→V3×Bool:=M4c PF
theorem PF_o:PF.o=opsF:=by simp only[PF]
theorem V4q:PF.sn=sinV:=by simp only[PF]
theorem V4j:PF.cs=cosV:=by simp only[PF]
theorem V4k:PF.dy=E0r opsF:=by simp only[PF]
theorem V4m:PF.kp=kepV:=by simp only[PF]
theorem V4n:PF.ok=fun p=>V0e p.1:=by simp only[PF]
theorem V4p:PF.rt=fun p=>A0z p.1:=by simp only[PF]
theorem X1v:GamOk Tryz.prog (V2r PF):=by
 unfold V2r
 rw[PF_o,V4q,V4j,V4k,V4m,V4n,V4p]
 exact .cons N2e (.cons X2y (.cons ok40 (.cons ok41 (.cons ok38 (.cons ok39 (.cons J5u (.cons K4z (.cons N3b A1e))))))))
theorem N3p:A0h Tryz.prog 168 (S 57 C3t):=S_ok X1v 20 fun b a=>(Y2k PF b a.1 a.2.1).trans (M4b ..)
structure SH where
 d:Int
 g:Int
 q:Int
def A2b(o:Ops)(b:Bool)(p:Int×Int×Int×Unit):Int×Bool :=
 let m:=o.mul b p.2.1 p.2.2.1
 let a:=o.add m.2 p.1 m.1
 o.mod a.2 a.1 6908435304716
theorem H3g(o:Ops)(b:Bool)(x y z:Int):fnSum Tryz.prog {gam:=gamN o} [] 20 219 [.ptr 0 0,.val (.int .i64 x),.val (.int .i64 y),.val (.int .i64 z)] (row 57 b) =
  some (.val (Cod.enc (A2b o b (x,y,z,())).1),row 57 (A2b o b (x,y,z,())).2):=by kernel_rfl
def Y1z(F:W0b)(b:Bool)(tk:Int):SH×Bool :=
 let d:=F.dy b (tk,())
 let g:=A2b F.o d.2 (6870645337657,18913766030,d.1,())
 let q:=A2b F.o g.2 (5399914965875,18914669500,d.1,())
 (⟨d.1,g.1,q.1⟩,q.2)
def D3b(F:W0b)(h:SH×Bool):Int×Bool :=
 let s:=F.sn h.2 (h.1.g,())
 let m:=F.o.mul s.2 36749037801 s.1
 let a:=F.o.add m.2 h.1.q m.1
 let t:=F.sn a.2 (w64 (2*h.1.g),())
 let n:=F.o.mul t.2 383801961 t.1
 F.o.add n.2 a.1 n.1
def D3d(F:W0b)(d:Int)(l:Int×Bool):V3×Bool :=
 let p:=F.o.mul l.2 6908 d
 let e:=F.o.sub p.2 449733620800 p.1
 let s:=F.sn e.2 (l.1,())
 let x:=F.cs s.2 (l.1,())
 let c:=F.cs x.2 (e.1,())
 let y:=F.o.mul c.2 c.1 s.1
 let t:=F.sn y.2 (e.1,())
 let z:=F.o.mul t.2 t.1 s.1
 (⟨x.1,y.1,z.1⟩,z.2)
def H3b(F:W0b):Gam:=(219,S 57 (A2b F.o)) :: V2r F
def snT(e:TypeId)(r:V3×Bool):Option (AV×List Con):=bif r.2 then some (.val (Cod.enc V3.zero),row e r.2) else some (.val (Cod.enc r.1),row e r.2)
theorem P4t(F:W0b)(b:Bool)(tk:Int):fnSum Tryz.prog {gam:=H3b F} [] 20 169 [.ptr 0 0,.val (.int .i64 tk)] (row 57 b) =
  snT 57 (D3d F (Y1z F b tk).1.d (D3b F (Y1z F b tk))):=by kernel_rfl
theorem D3c(e:TypeId)(r:V3×Bool):snT e r=some (.val (Cod.enc (P0d r).1),row e (P0d r).2):=by
 unfold snT P0d
 cases r.2<;>rfl
section
variable {F:W0b} (hm:∀x y,F.o.mul true x y=(0,true)) (ha:∀x y,F.o.add true x y=(0,true)) (hs:∀x y,F.o.sub true x y=(0,true)) (hc:∀p,F.cs true p=(0,true)) (hn:∀p,F.sn true p=(0,true))
include hm ha hs hc hn
end
def sunV(b:Bool)(p:Int×Unit):V3×Bool:=P0d (D3d PF (Y1z PF b p.1).1.d (D3b PF (Y1z PF b p.1)))
theorem K4w:A0h Tryz.prog 219 (S 57 (A2b opsF)):=S_ok A0u 20 fun b a=>H3g opsF b a.1 a.2.1 a.2.2.1
theorem V2t:GamOk Tryz.prog (H3b PF):=by
 unfold H3b
 rw[PF_o]
 exact .cons K4w X1v
theorem K5a:A0h Tryz.prog 169 (S 57 sunV):=S_ok V2t 20 fun b a=>(P4t PF b a.1).trans (D3c ..)
structure D2a where
 c:Int
 n:Int
def Q1y(v:VOps)(b:Bool)(p s:V3):D2a×Bool :=
 let c:=v.dot b (p,s,())
 let t:=v.scale c.2 (s,c.1,())
 let d:=v.sub t.2 (p,t.1,())
 let n:=v.norm d.2 (d.1,())
 (⟨c.1,n.1⟩,n.2)
def Q2p(e:TypeId)(r:D2a×Bool):Option (AV×List Con) :=
 bif !r.2 then bif decide (r.1.c<0) then some (.val (Cod.enc (decide (r.1.n<7012835795048))),row e r.2) else some (.val (Cod.enc false),row e r.2) else some (.val (Cod.enc false),row e r.2)
theorem Z2u(v:VOps)(b:Bool)(p s:V3):fnSum Tryz.prog {gam:=gamV v} [] 20 171 [.ptr 0 0,.val (Cod.enc p),.val (Cod.enc s)] (row 57 b)=Q2p 57 (Q1y v b p s):=by kernel_rfl
def N4x(v:VOps)(b:Bool)(p:V3×V3×Unit):Bool×Bool:=(!(Q1y v b p.1 p.2.1).2&&(decide ((Q1y v b p.1 p.2.1).1.c<0)&&decide ((Q1y v b p.1 p.2.1).1.n<7012835795048)),(Q1y v b p.1 p.2.1).2)
theorem Q2q(e:TypeId)(r:D2a×Bool):Q2p e r=some (.val (Cod.enc (!r.2&&(decide (r.1.c<0)&&decide (r.1.n<7012835795048)))),row e r.2):=by
 unfold Q2p
 cases r.2<;>cases decide (r.1.c<0)<;>rfl
def C3z:Bool→V3×V3×Unit→Bool×Bool:=N4x E0b
theorem N3r:A0h Tryz.prog 171 (S 57 C3z):=S_ok J1y 20 fun b a=>(Z2u E0b b a.1 a.2.1).trans (Q2q ..)
def kI(n:Nat):Value:=.int .i64 (n:Int)
def key2(n m:Nat):Value:=.agg #[kI n,kI m]
def val3(p d q:Int):Value:=.agg #[.int .i64 p,.int .i64 d,.int .i64 q]
noncomputable def tmC:Code:=Tryz.f245.body.getD .skip
noncomputable def tm0:Code:=seqL tmC
noncomputable def tm1:Code:=seqL (seqR tmC)
noncomputable def tm2:Code:=seqL (seqR (seqR tmC))
noncomputable def tm3:Code:=seqL (seqL (seqR (seqR (seqR tmC))))
noncomputable def tmL:Code:=inB (inB (seqR (seqL (seqR (seqR (seqR tmC))))))
noncomputable def tmE:Code:=seqR (seqR (seqR (seqR tmC)))
def N4g:Code→Array Oper
 | .region _ ops _=>ops
 | _=>#[]
noncomputable def C0z:Array Oper:=N4g tm1
theorem P4y:tm1=.region 1 C0z true:=by kernel_rfl
theorem R0a:C0z.size=11:=by kernel_rfl
theorem C2c:C0z.toList.map E0v=[[],[],[],[0,1,2],[],[],[],[5,6],[0,4,7],[0,1,2,3,4,5,6,7,8],[9,0,1,2,3,4,5,6,7,8,9]]:=by kernel_rfl
theorem A3c:Tryz.prog.follows .mixedOrders=true:=by kernel_rfl
theorem R2x{j:Nat}{o:Oper}(h:C0z[j]?=some o):[[],[],[],[0,1,2],[],[],[],[5,6],[0,4,7],[0,1,2,3,4,5,6,7,8],[9,0,1,2,3,4,5,6,7,8,9]][j]?=some (E0v o):=by
 have :=congrArg (fun l=>l[j]?) C2c
 simp only[List.getElem?_map,Array.getElem?_toList,h,Option.map_some]at this
 exact this.symm
theorem R3p(i:Nat)(o:Oper)(h:C0z[i]?=some o):∀k∈E0v o,k<i:=by
 have h0:=R2x h
 have hi:i<11:=by rw[← R0a];exact (Array.getElem?_eq_some_iff.1 h).1
 match i,hi with
 | 0,_=>simp only[List.getElem?_cons_zero,List.getElem?_cons_succ,Option.some.injEq]at h0;rw[← h0];decide
 | 1,_=>simp only[List.getElem?_cons_zero,List.getElem?_cons_succ,Option.some.injEq]at h0;rw[← h0];decide
 | 2,_=>simp only[List.getElem?_cons_zero,List.getElem?_cons_succ,Option.some.injEq]at h0;rw[← h0];decide
 | 3,_=>simp only[List.getElem?_cons_zero,List.getElem?_cons_succ,Option.some.injEq]at h0;rw[← h0];decide
 | 4,_=>simp only[List.getElem?_cons_zero,List.getElem?_cons_succ,Option.some.injEq]at h0;rw[← h0];decide
 | 5,_=>simp only[List.getElem?_cons_zero,List.getElem?_cons_succ,Option.some.injEq]at h0;rw[← h0];decide
 | 6,_=>simp only[List.getElem?_cons_zero,List.getElem?_cons_succ,Option.some.injEq]at h0;rw[← h0];decide
 | 7,_=>simp only[List.getElem?_cons_zero,List.getElem?_cons_succ,Option.some.injEq]at h0;rw[← h0];decide
 | 8,_=>simp only[List.getElem?_cons_zero,List.getElem?_cons_succ,Option.some.injEq]at h0;rw[← h0];decide
 | 9,_=>simp only[List.getElem?_cons_zero,List.getElem?_cons_succ,Option.some.injEq]at h0;rw[← h0];decide
 | 10,_=>simp only[List.getElem?_cons_zero,List.getElem?_cons_succ,Option.some.injEq]at h0;rw[← h0];decide
def N5e(b3 b8:Bool)(c s:Int):List Value:=[key2 0 0,.bool b3,val3 1099511627776 0 0,key2 1 1,.bool b8,val3 s c 1099511627776]
def tmHp(b0:Bool)(f:Bool)(ob:Obj):Hp:=bif b0 then [(0,.row 57 [.val (.bool f)]),(4096,.row 55 [.ptr 0 0]),((4096+1*2^180),.obj ob)]else [(0,.row 57 [.val (.bool f)]),(4096,.row 55 [.ptr 0 0])]
def H0k(b3 b8:Bool)(c s:Int):Obj:=.chan 1 (List.toArray (N5e b3 b8 c s)) false 0 0 false
def tmS(c s:Int)(f:Bool)(ob:Obj)(b0 b1 b2 b4 b5 b6 b7 b9 b10:Bool):St:=gSt 181 [(1,.val (.int .i64 c)),(2,.val (.int .i64 s)),(3,.ptr 4096 0),(17,bif b0 then .map (4096+1*2^180) else .any),(18,bif b1 then .val (key2 0 0) else .any),(19,bif b2 then .val (val3 1099511627776 0 0) else .any),(20,bif b4 then .val (key2 1 1) else .any),
 (21,bif b5 then .val (.int .i64 s) else .any),(22,bif b6 then .val (.int .i64 c) else .any),(23,bif b7 then .val (val3 s c 1099511627776) else .any),(24,bif b9 then .map (4096+1*2^180) else .any),(7,bif b10 then .map (4096+1*2^180) else .any)] (tmHp b0 f ob) (bif b0 then (4096+2*2^180) else (4096+1*2^180))
theorem N5h(c s:Int)(f:Bool)(b1 b2 b3 b4 b5 b6 b7 b8 b9 b10:Bool):(C0z[0]?).bind (fun o=>opGo Tryz.prog {gam:=[]} 181 C0z o (tmS c s f (H0k b3 b8 c s) false b1 b2 b4 b5 b6 b7 b9 b10))=some (tmS c s f (.map #[] 0) true b1 b2 b4 b5 b6 b7 b9 b10):=by kernel_rfl
theorem N5j(c s:Int)(f:Bool)(b0 b2 b3 b4 b5 b6 b7 b8 b9 b10:Bool):(C0z[1]?).bind (fun o=>opGo Tryz.prog {gam:=[]} 181 C0z o (tmS c s f (H0k b3 b8 c s) b0 false b2 b4 b5 b6 b7 b9 b10))=some (tmS c s f (H0k b3 b8 c s) b0 true b2 b4 b5 b6 b7 b9 b10):=by kernel_rfl
theorem N5k(c s:Int)(f:Bool)(b0 b1 b3 b4 b5 b6 b7 b8 b9 b10:Bool):(C0z[2]?).bind (fun o=>opGo Tryz.prog {gam:=[]} 181 C0z o (tmS c s f (H0k b3 b8 c s) b0 b1 false b4 b5 b6 b7 b9 b10))=some (tmS c s f (H0k b3 b8 c s) b0 b1 true b4 b5 b6 b7 b9 b10):=by kernel_rfl
theorem N5m(c s:Int)(f:Bool)(b4 b5 b6 b7 b8 b9 b10:Bool):(C0z[3]?).bind (fun o=>opGo Tryz.prog {gam:=[]} 181 C0z o (tmS c s f (H0k false b8 c s) true true true b4 b5 b6 b7 b9 b10))=some (tmS c s f (H0k true b8 c s) true true true b4 b5 b6 b7 b9 b10):=by kernel_rfl
theorem N5n(c s:Int)(f:Bool)(b0 b1 b2 b3 b5 b6 b7 b8 b9 b10:Bool):(C0z[4]?).bind (fun o=>opGo Tryz.prog {gam:=[]} 181 C0z o (tmS c s f (H0k b3 b8 c s) b0 b1 b2 false b5 b6 b7 b9 b10))=some (tmS c s f (H0k b3 b8 c s) b0 b1 b2 true b5 b6 b7 b9 b10):=by kernel_rfl
theorem N5p(c s:Int)(f:Bool)(b0 b1 b2 b3 b4 b6 b7 b8 b9 b10:Bool):(C0z[5]?).bind (fun o=>opGo Tryz.prog {gam:=[]} 181 C0z o (tmS c s f (H0k b3 b8 c s) b0 b1 b2 b4 false b6 b7 b9 b10))=some (tmS c s f (H0k b3 b8 c s) b0 b1 b2 b4 true b6 b7 b9 b10):=by kernel_rfl
theorem N5q(c s:Int)(f:Bool)(b0 b1 b2 b3 b4 b5 b7 b8 b9 b10:Bool):(C0z[6]?).bind (fun o=>opGo Tryz.prog {gam:=[]} 181 C0z o (tmS c s f (H0k b3 b8 c s) b0 b1 b2 b4 b5 false b7 b9 b10))=some (tmS c s f (H0k b3 b8 c s) b0 b1 b2 b4 b5 true b7 b9 b10):=by kernel_rfl
theorem N5r(c s:Int)(f:Bool)(b0 b1 b2 b3 b4 b8 b9 b10:Bool):(C0z[7]?).bind (fun o=>opGo Tryz.prog {gam:=[]} 181 C0z o (tmS c s f (H0k b3 b8 c s) b0 b1 b2 b4 true true false b9 b10))=some (tmS c s f (H0k b3 b8 c s) b0 b1 b2 b4 true true true b9 b10):=by kernel_rfl
theorem N5t(c s:Int)(f:Bool)(b1 b2 b3 b5 b6 b9 b10:Bool):(C0z[8]?).bind (fun o=>opGo Tryz.prog {gam:=[]} 181 C0z o (tmS c s f (H0k b3 false c s) true b1 b2 true b5 b6 true b9 b10))=some (tmS c s f (H0k b3 true c s) true b1 b2 true b5 b6 true b9 b10):=by kernel_rfl
theorem N5u(c s:Int)(f:Bool)(b10:Bool):(C0z[9]?).bind (fun o=>opGo Tryz.prog {gam:=[]} 181 C0z o (tmS c s f (H0k true true c s) true true true true true true true false b10))=some (tmS c s f (H0k true true c s) true true true true true true true true b10):=by kernel_rfl
theorem Q4j(c s:Int)(f:Bool):(C0z[10]?).bind (fun o=>opGo Tryz.prog {gam:=[]} 181 C0z o (tmS c s f (H0k true true c s) true true true true true true true true false))=some (tmS c s f (H0k true true c s) true true true true true true true true true):=by kernel_rfl
def tmSt(c s:Int)(f:Bool)(L:Nat→Bool):St:=tmS c s f (H0k (L 3) (L 8) c s) (L 0) (L 1) (L 2) (L 4) (L 5) (L 6) (L 7) (L 9) (L 10)
theorem A1h{m:Nat}{x y:Con}{b:Nat}{c:Con}:∀{r:Hp},hget (r++[(m,x)]) b=some c→(b=m∧c=x)∨hget (r++[(m,y)]) b=some c
 | [],h=>by
  simp only[List.nil_append,hget]at h ⊢
  split at h
  ·rename_i e
   exact .inl ⟨(Nat.eq_of_beq_eq_true e).symm,(Option.some.inj h).symm⟩
  ·cases h
 | (k,z) :: r,h=>by
  simp only[List.cons_append,hget]at h ⊢
  split at h
  ·exact .inr h
  ·exact A1h h
theorem N5v(c s:Int)(f b1 b2 b4 b5 b6 b7 b9 b10:Bool)(ob ob1:Obj):(tmS c s f ob true b1 b2 b4 b5 b6 b7 b9 b10).lo≤(tmS c s f ob1 false b1 b2 b4 b5 b6 b7 b9 b10).hi :=
 show (4096+2*2^180:Nat)≤4096+2^200 from Nat.le_of_ble_eq_true (by kernel_rfl)
theorem R2z(c s:Int)(f b1 b2 b4 b5 b6 b7 b9 b10:Bool){w0:World}{own:Nat→Prop}{σ0:Nat→Option Nat}{lo0 hi0:Nat}{a:Act}{w:World}(h:A0j 181 w0 own σ0 lo0 hi0 (tmS c s f (.map #[] 0) true b1 b2 b4 b5 b6 b7 b9 b10) a w) :
  A0j 181 w0 own σ0 lo0 hi0 (tmS c s f (H0k false false c s) true b1 b2 b4 b5 b6 b7 b9 b10) a w:=by
 refine h.retell ((4096+1*2^180)) (ob:=.map #[] 0) (ob1:=H0k false false c s) (by kernel_rfl) (fun o ho=>?_) rfl (fun b c hb=>?_) rfl rfl
 ·have ho:o=.map #[] 0:=ho
  subst ho
  exact ⟨#[],0,rfl,List.Perm.nil⟩
 ·exact A1h (r:=[(0,.row 57 [.val (.bool f)]),(4096,.row 55 [.ptr 0 0])]) hb
theorem A3d(c s:Int)(f:Bool){L:Nat→Bool}{o:Oper}(ho:C0z[0]?=some o){w0:World}{own:Nat→Prop}{σ0:Nat→Option Nat}{lo0 hi0:Nat}{a:Act}{w:World}(hst:A0j 181 w0 own σ0 lo0 hi0 (tmSt c s f L) a w)(hL:L 0=false)(n3:L 3=false)(n8:L 8=false)(Q:Exit→Act→World→Prop)(K:Act→World→Prop)
  (hK:∀a' w',A0j 181 w0 own σ0 lo0 hi0 (tmSt c s f (lset L 0)) a' w'→K a' w'):wpOp Tryz.prog C0z Q 0 K a w:=by
 unfold tmSt at hst
 rw[hL]at hst
 rw[n3,n8]at hst
 have e:=N5h c s f (L 1) (L 2) false (L 4) (L 5) (L 6) (L 7) false (L 9) (L 10)
 rw[ho,Option.bind_some]at e
 refine L0a .nil ho e (.inl (N5v ..)) hst Q K fun a' w' h'=>hK a' w' ?_
 unfold tmSt
 rw[show lset L 0 0=true from E0y L 0,show lset L 0 1=L 1 from rfl,show lset L 0 2=L 2 from rfl,show lset L 0 3=false from n3,show lset L 0 4=L 4 from rfl,show lset L 0 5=L 5 from rfl,show lset L 0 6=L 6 from rfl,show lset L 0 7=L 7 from rfl,show lset L 0 8=false from n8,show lset L 0 9=L 9 from rfl,show lset L 0 10=L 10 from rfl]
 exact R2z c s f _ _ _ _ _ _ _ _ h'
theorem A3e(c s:Int)(f:Bool){L:Nat→Bool}{o:Oper}(ho:C0z[1]?=some o){w0:World}{own:Nat→Prop}{σ0:Nat→Option Nat}{lo0 hi0:Nat}{a:Act}{w:World}(hst:A0j 181 w0 own σ0 lo0 hi0 (tmSt c s f L) a w)(hL:L 1=false)(Q:Exit→Act→World→Prop)(K:Act→World→Prop)
  (hK:∀a' w',A0j 181 w0 own σ0 lo0 hi0 (tmSt c s f (lset L 1)) a' w'→K a' w'):wpOp Tryz.prog C0z Q 1 K a w:=by
 unfold tmSt at hst
 rw[hL]at hst
 have e:=N5j c s f (L 0) (L 2) (L 3) (L 4) (L 5) (L 6) (L 7) (L 8) (L 9) (L 10)
 rw[ho,Option.bind_some]at e
 refine L0a .nil ho e (.inr rfl) hst Q K fun a' w' h'=>hK a' w' ?_
 unfold tmSt
 rw[show lset L 1 0=L 0 from rfl,show lset L 1 1=true from E0y L 1,show lset L 1 2=L 2 from rfl,show lset L 1 3=L 3 from rfl,show lset L 1 4=L 4 from rfl,show lset L 1 5=L 5 from rfl,show lset L 1 6=L 6 from rfl,show lset L 1 7=L 7 from rfl,show lset L 1 8=L 8 from rfl,show lset L 1 9=L 9 from rfl,show lset L 1 10=L 10 from rfl]
 exact h'
theorem A3g(c s:Int)(f:Bool){L:Nat→Bool}{o:Oper}(ho:C0z[2]?=some o){w0:World}{own:Nat→Prop}{σ0:Nat→Option Nat}{lo0 hi0:Nat}{a:Act}{w:World}(hst:A0j 181 w0 own σ0 lo0 hi0 (tmSt c s f L) a w)(hL:L 2=false)(Q:Exit→Act→World→Prop)(K:Act→World→Prop)
  (hK:∀a' w',A0j 181 w0 own σ0 lo0 hi0 (tmSt c s f (lset L 2)) a' w'→K a' w'):wpOp Tryz.prog C0z Q 2 K a w:=by
 unfold tmSt at hst
 rw[hL]at hst
 have e:=N5k c s f (L 0) (L 1) (L 3) (L 4) (L 5) (L 6) (L 7) (L 8) (L 9) (L 10)
 rw[ho,Option.bind_some]at e
 refine L0a .nil ho e (.inr rfl) hst Q K fun a' w' h'=>hK a' w' ?_
 unfold tmSt
 rw[show lset L 2 0=L 0 from rfl,show lset L 2 1=L 1 from rfl,show lset L 2 2=true from E0y L 2,show lset L 2 3=L 3 from rfl,show lset L 2 4=L 4 from rfl,show lset L 2 5=L 5 from rfl,show lset L 2 6=L 6 from rfl,show lset L 2 7=L 7 from rfl,show lset L 2 8=L 8 from rfl,show lset L 2 9=L 9 from rfl,show lset L 2 10=L 10 from rfl]
 exact h'
theorem A3h(c s:Int)(f:Bool){L:Nat→Bool}{o:Oper}(ho:C0z[3]?=some o){w0:World}{own:Nat→Prop}{σ0:Nat→Option Nat}{lo0 hi0:Nat}{a:Act}{w:World}(hst:A0j 181 w0 own σ0 lo0 hi0 (tmSt c s f L) a w)(hL:L 3=false)(d0:L 0=true)(d1:L 1=true)(d2:L 2=true)(Q:Exit→Act→World→Prop)(K:Act→World→Prop)
  (hK:∀a' w',A0j 181 w0 own σ0 lo0 hi0 (tmSt c s f (lset L 3)) a' w'→K a' w'):wpOp Tryz.prog C0z Q 3 K a w:=by
 unfold tmSt at hst
 rw[hL,d0,d1,d2]at hst
 have e:=N5m c s f (L 4) (L 5) (L 6) (L 7) (L 8) (L 9) (L 10)
 rw[ho,Option.bind_some]at e
 refine L0a .nil ho e (.inr rfl) hst Q K fun a' w' h'=>hK a' w' ?_
 unfold tmSt
 rw[show lset L 3 0=true from d0,show lset L 3 1=true from d1,show lset L 3 2=true from d2,show lset L 3 3=true from E0y L 3,show lset L 3 4=L 4 from rfl,show lset L 3 5=L 5 from rfl,show lset L 3 6=L 6 from rfl,show lset L 3 7=L 7 from rfl,show lset L 3 8=L 8 from rfl,show lset L 3 9=L 9 from rfl,show lset L 3 10=L 10 from rfl]
 exact h'
theorem A3j(c s:Int)(f:Bool){L:Nat→Bool}{o:Oper}(ho:C0z[4]?=some o){w0:World}{own:Nat→Prop}{σ0:Nat→Option Nat}{lo0 hi0:Nat}{a:Act}{w:World}(hst:A0j 181 w0 own σ0 lo0 hi0 (tmSt c s f L) a w)(hL:L 4=false)(Q:Exit→Act→World→Prop)(K:Act→World→Prop)
  (hK:∀a' w',A0j 181 w0 own σ0 lo0 hi0 (tmSt c s f (lset L 4)) a' w'→K a' w'):wpOp Tryz.prog C0z Q 4 K a w:=by
 unfold tmSt at hst
 rw[hL]at hst
 have e:=N5n c s f (L 0) (L 1) (L 2) (L 3) (L 5) (L 6) (L 7) (L 8) (L 9) (L 10)
 rw[ho,Option.bind_some]at e
 refine L0a .nil ho e (.inr rfl) hst Q K fun a' w' h'=>hK a' w' ?_
 unfold tmSt
 rw[show lset L 4 0=L 0 from rfl,show lset L 4 1=L 1 from rfl,show lset L 4 2=L 2 from rfl,show lset L 4 3=L 3 from rfl,show lset L 4 4=true from E0y L 4,show lset L 4 5=L 5 from rfl,show lset L 4 6=L 6 from rfl,show lset L 4 7=L 7 from rfl,show lset L 4 8=L 8 from rfl,show lset L 4 9=L 9 from rfl,show lset L 4 10=L 10 from rfl]
 exact h'
theorem A3k(c s:Int)(f:Bool){L:Nat→Bool}{o:Oper}(ho:C0z[5]?=some o){w0:World}{own:Nat→Prop}{σ0:Nat→Option Nat}{lo0 hi0:Nat}{a:Act}{w:World}(hst:A0j 181 w0 own σ0 lo0 hi0 (tmSt c s f L) a w)(hL:L 5=false)(Q:Exit→Act→World→Prop)(K:Act→World→Prop)
  (hK:∀a' w',A0j 181 w0 own σ0 lo0 hi0 (tmSt c s f (lset L 5)) a' w'→K a' w'):wpOp Tryz.prog C0z Q 5 K a w:=by
 unfold tmSt at hst
 rw[hL]at hst
 have e:=N5p c s f (L 0) (L 1) (L 2) (L 3) (L 4) (L 6) (L 7) (L 8) (L 9) (L 10)
 rw[ho,Option.bind_some]at e
 refine L0a .nil ho e (.inr rfl) hst Q K fun a' w' h'=>hK a' w' ?_
 unfold tmSt
 rw[show lset L 5 0=L 0 from rfl,show lset L 5 1=L 1 from rfl,show lset L 5 2=L 2 from rfl,show lset L 5 3=L 3 from rfl,show lset L 5 4=L 4 from rfl,show lset L 5 5=true from E0y L 5,show lset L 5 6=L 6 from rfl,show lset L 5 7=L 7 from rfl,show lset L 5 8=L 8 from rfl,show lset L 5 9=L 9 from rfl,show lset L 5 10=L 10 from rfl]
 exact h'
theorem A3m(c s:Int)(f:Bool){L:Nat→Bool}{o:Oper}(ho:C0z[6]?=some o){w0:World}{own:Nat→Prop}{σ0:Nat→Option Nat}{lo0 hi0:Nat}{a:Act}{w:World}(hst:A0j 181 w0 own σ0 lo0 hi0 (tmSt c s f L) a w)(hL:L 6=false)(Q:Exit→Act→World→Prop)(K:Act→World→Prop)
  (hK:∀a' w',A0j 181 w0 own σ0 lo0 hi0 (tmSt c s f (lset L 6)) a' w'→K a' w'):wpOp Tryz.prog C0z Q 6 K a w:=by
 unfold tmSt at hst
 rw[hL]at hst
 have e:=N5q c s f (L 0) (L 1) (L 2) (L 3) (L 4) (L 5) (L 7) (L 8) (L 9) (L 10)
 rw[ho,Option.bind_some]at e
 refine L0a .nil ho e (.inr rfl) hst Q K fun a' w' h'=>hK a' w' ?_
 unfold tmSt
 rw[show lset L 6 0=L 0 from rfl,show lset L 6 1=L 1 from rfl,show lset L 6 2=L 2 from rfl,show lset L 6 3=L 3 from rfl,show lset L 6 4=L 4 from rfl,show lset L 6 5=L 5 from rfl,show lset L 6 6=true from E0y L 6,show lset L 6 7=L 7 from rfl,show lset L 6 8=L 8 from rfl,show lset L 6 9=L 9 from rfl,show lset L 6 10=L 10 from rfl]
 exact h'
theorem A3n(c s:Int)(f:Bool){L:Nat→Bool}{o:Oper}(ho:C0z[7]?=some o){w0:World}{own:Nat→Prop}{σ0:Nat→Option Nat}{lo0 hi0:Nat}{a:Act}{w:World}(hst:A0j 181 w0 own σ0 lo0 hi0 (tmSt c s f L) a w)(hL:L 7=false)(d5:L 5=true)(d6:L 6=true)(Q:Exit→Act→World→Prop)(K:Act→World→Prop)
  (hK:∀a' w',A0j 181 w0 own σ0 lo0 hi0 (tmSt c s f (lset L 7)) a' w'→K a' w'):wpOp Tryz.prog C0z Q 7 K a w:=by
 unfold tmSt at hst
 rw[hL,d5,d6]at hst
 have e:=N5r c s f (L 0) (L 1) (L 2) (L 3) (L 4) (L 8) (L 9) (L 10)
 rw[ho,Option.bind_some]at e
 refine L0a .nil ho e (.inr rfl) hst Q K fun a' w' h'=>hK a' w' ?_
 unfold tmSt
 rw[show lset L 7 0=L 0 from rfl,show lset L 7 1=L 1 from rfl,show lset L 7 2=L 2 from rfl,show lset L 7 3=L 3 from rfl,show lset L 7 4=L 4 from rfl,show lset L 7 5=true from d5,show lset L 7 6=true from d6,show lset L 7 7=true from E0y L 7,show lset L 7 8=L 8 from rfl,show lset L 7 9=L 9 from rfl,show lset L 7 10=L 10 from rfl]
 exact h'
theorem A3p(c s:Int)(f:Bool){L:Nat→Bool}{o:Oper}(ho:C0z[8]?=some o){w0:World}{own:Nat→Prop}{σ0:Nat→Option Nat}{lo0 hi0:Nat}{a:Act}{w:World}(hst:A0j 181 w0 own σ0 lo0 hi0 (tmSt c s f L) a w)(hL:L 8=false)(d0:L 0=true)(d4:L 4=true)(d7:L 7=true)(Q:Exit→Act→World→Prop)(K:Act→World→Prop)
  (hK:∀a' w',A0j 181 w0 own σ0 lo0 hi0 (tmSt c s f (lset L 8)) a' w'→K a' w'):wpOp Tryz.prog C0z Q 8 K a w:=by
 unfold tmSt at hst
 rw[hL,d0,d4,d7]at hst
 have e:=N5t c s f (L 1) (L 2) (L 3) (L 5) (L 6) (L 9) (L 10)
 rw[ho,Option.bind_some]at e
 refine L0a .nil ho e (.inr rfl) hst Q K fun a' w' h'=>hK a' w' ?_
 unfold tmSt
 rw[show lset L 8 0=true from d0,show lset L 8 1=L 1 from rfl,show lset L 8 2=L 2 from rfl,show lset L 8 3=L 3 from rfl,show lset L 8 4=true from d4,show lset L 8 5=L 5 from rfl,show lset L 8 6=L 6 from rfl,show lset L 8 7=true from d7,show lset L 8 8=true from E0y L 8,show lset L 8 9=L 9 from rfl,show lset L 8 10=L 10 from rfl]
 exact h'
theorem A3q(c s:Int)(f:Bool){L:Nat→Bool}{o:Oper}(ho:C0z[9]?=some o){w0:World}{own:Nat→Prop}{σ0:Nat→Option Nat}{lo0 hi0:Nat}{a:Act}{w:World}(hst:A0j 181 w0 own σ0 lo0 hi0 (tmSt c s f L) a w)(hL:L 9=false)(d0:L 0=true)(d1:L 1=true)(d2:L 2=true)(d3:L 3=true)(d4:L 4=true)(d5:L 5=true)(d6:L 6=true)(d7:L 7=true)(d8:L 8=true)(Q:Exit→Act→World→Prop)(K:Act→World→Prop)
  (hK:∀a' w',A0j 181 w0 own σ0 lo0 hi0 (tmSt c s f (lset L 9)) a' w'→K a' w'):wpOp Tryz.prog C0z Q 9 K a w:=by
 unfold tmSt at hst
 rw[hL,d0,d1,d2,d3,d4,d5,d6,d7,d8]at hst
 have e:=N5u c s f (L 10)
 rw[ho,Option.bind_some]at e
 refine L0a .nil ho e (.inr rfl) hst Q K fun a' w' h'=>hK a' w' ?_
 unfold tmSt
 rw[show lset L 9 0=true from d0,show lset L 9 1=true from d1,show lset L 9 2=true from d2,show lset L 9 3=true from d3,show lset L 9 4=true from d4,show lset L 9 5=true from d5,show lset L 9 6=true from d6,show lset L 9 7=true from d7,show lset L 9 8=true from d8,show lset L 9 9=true from E0y L 9,show lset L 9 10=L 10 from rfl]
 exact h'
theorem T2a(c s:Int)(f:Bool){L:Nat→Bool}{o:Oper}(ho:C0z[10]?=some o){w0:World}{own:Nat→Prop}{σ0:Nat→Option Nat}{lo0 hi0:Nat}{a:Act}{w:World}(hst:A0j 181 w0 own σ0 lo0 hi0 (tmSt c s f L) a w)(hL:L 10=false)(d0:L 0=true)(d1:L 1=true)(d2:L 2=true)(d3:L 3=true)(d4:L 4=true)(d5:L 5=true)(d6:L 6=true)(d7:L 7=true)(d8:L 8=true)(d9:L 9=true)(Q:Exit→Act→World→Prop)(K:Act→World→Prop)
  (hK:∀a' w',A0j 181 w0 own σ0 lo0 hi0 (tmSt c s f (lset L 10)) a' w'→K a' w'):wpOp Tryz.prog C0z Q 10 K a w:=by
 unfold tmSt at hst
 rw[hL,d0,d1,d2,d3,d4,d5,d6,d7,d8,d9]at hst
 have e:=Q4j c s f
 rw[ho,Option.bind_some]at e
 refine L0a .nil ho e (.inr rfl) hst Q K fun a' w' h'=>hK a' w' ?_
 unfold tmSt
 rw[show lset L 10 0=true from d0,show lset L 10 1=true from d1,show lset L 10 2=true from d2,show lset L 10 3=true from d3,show lset L 10 4=true from d4,show lset L 10 5=true from d5,show lset L 10 6=true from d6,show lset L 10 7=true from d7,show lset L 10 8=true from d8,show lset L 10 9=true from d9,show lset L 10 10=true from E0y L 10]
 exact h'
theorem R2y(c s:Int)(f:Bool):A0b Tryz.prog 181 tm1 (tmS c s f (H0k false false c s) false false false false false false false false false) .normal (tmS c s f (H0k true true c s) true true true true true true true true true):=by
 rw[P4y]
 intro w0 own σ0 lo0 hi0 a w hst Q hQ
 refine wp_region_any A3c ?_
 rw[R0a]
 have hz:∀i,i<11→(Array.replicate 11 false).getD i true=false:=fun i hi=>by simp[hi]
 refine D2e R0a R3p (fun L a w=>A0j 181 w0 own σ0 lo0 hi0 (tmSt c s f L) a w∧(L 0=false→L 3=false∧L 8=false)) Q ?_ ?_ 11 _ a _ (by simp) (by simp) ⟨?_,fun _=>⟨hz 3 (by omega),hz 8 (by omega)⟩⟩
 ·intro L j o a w hL ho hpre hinv K hK
  have hi:j<11:=by rw[← R0a];exact (Array.getElem?_eq_some_iff.1 ho).1
  have h0:=R2x ho
  obtain ⟨hst,hno⟩:=hinv
  match j,hi with
  | 0,_ =>
   simp only[List.getElem?_cons_zero,List.getElem?_cons_succ,Option.some.injEq]at h0
   rw[← h0]at hpre
   refine A3d c s f ho hst hL (hno hL).1 (hno hL).2 Q K fun a' w' h'=>hK a' w' ⟨h',fun h=>?_⟩
   rw[E0y]at h;cases h
  | 1,_ =>
   simp only[List.getElem?_cons_zero,List.getElem?_cons_succ,Option.some.injEq]at h0
   rw[← h0]at hpre
   refine A3e c s f ho hst hL Q K fun a' w' h'=>hK a' w' ⟨h',fun h=>?_⟩
   exact hno h
  | 2,_ =>
   simp only[List.getElem?_cons_zero,List.getElem?_cons_succ,Option.some.injEq]at h0
   rw[← h0]at hpre
   refine A3g c s f ho hst hL Q K fun a' w' h'=>hK a' w' ⟨h',fun h=>?_⟩
   exact hno h
  | 3,_ =>
   simp only[List.getElem?_cons_zero,List.getElem?_cons_succ,Option.some.injEq]at h0
   rw[← h0]at hpre
   have d0:L 0=true:=hpre 0 (by decide)
   have d1:L 1=true:=hpre 1 (by decide)
   have d2:L 2=true:=hpre 2 (by decide)
   refine A3h c s f ho hst hL d0 d1 d2 Q K fun a' w' h'=>hK a' w' ⟨h',fun h=>?_⟩
   rw[show lset L 3 0=true from d0]at h;cases h
  | 4,_ =>
   simp only[List.getElem?_cons_zero,List.getElem?_cons_succ,Option.some.injEq]at h0
   rw[← h0]at hpre
   refine A3j c s f ho hst hL Q K fun a' w' h'=>hK a' w' ⟨h',fun h=>?_⟩
   exact hno h
  | 5,_ =>
   simp only[List.getElem?_cons_zero,List.getElem?_cons_succ,Option.some.injEq]at h0
   rw[← h0]at hpre
   refine A3k c s f ho hst hL Q K fun a' w' h'=>hK a' w' ⟨h',fun h=>?_⟩
   exact hno h
  | 6,_ =>
   simp only[List.getElem?_cons_zero,List.getElem?_cons_succ,Option.some.injEq]at h0
   rw[← h0]at hpre
   refine A3m c s f ho hst hL Q K fun a' w' h'=>hK a' w' ⟨h',fun h=>?_⟩
   exact hno h
  | 7,_ =>
   simp only[List.getElem?_cons_zero,List.getElem?_cons_succ,Option.some.injEq]at h0
   rw[← h0]at hpre
   have d5:L 5=true:=hpre 5 (by decide)
   have d6:L 6=true:=hpre 6 (by decide)
   refine A3n c s f ho hst hL d5 d6 Q K fun a' w' h'=>hK a' w' ⟨h',fun h=>?_⟩
   exact hno h
  | 8,_ =>
   simp only[List.getElem?_cons_zero,List.getElem?_cons_succ,Option.some.injEq]at h0
   rw[← h0]at hpre
   have d0:L 0=true:=hpre 0 (by decide)
   have d4:L 4=true:=hpre 4 (by decide)
   have d7:L 7=true:=hpre 7 (by decide)
   refine A3p c s f ho hst hL d0 d4 d7 Q K fun a' w' h'=>hK a' w' ⟨h',fun h=>?_⟩
   rw[show lset L 8 0=true from d0]at h;cases h
  | 9,_ =>
   simp only[List.getElem?_cons_zero,List.getElem?_cons_succ,Option.some.injEq]at h0
   rw[← h0]at hpre
   have d0:L 0=true:=hpre 0 (by decide)
   have d1:L 1=true:=hpre 1 (by decide)
   have d2:L 2=true:=hpre 2 (by decide)
   have d3:L 3=true:=hpre 3 (by decide)
   have d4:L 4=true:=hpre 4 (by decide)
   have d5:L 5=true:=hpre 5 (by decide)
   have d6:L 6=true:=hpre 6 (by decide)
   have d7:L 7=true:=hpre 7 (by decide)
   have d8:L 8=true:=hpre 8 (by decide)
   refine A3q c s f ho hst hL d0 d1 d2 d3 d4 d5 d6 d7 d8 Q K fun a' w' h'=>hK a' w' ⟨h',fun h=>?_⟩
   rw[show lset L 9 0=true from d0]at h;cases h
  | 10,_ =>
   simp only[List.getElem?_cons_zero,List.getElem?_cons_succ,Option.some.injEq]at h0
   rw[← h0]at hpre
   have d0:L 0=true:=hpre 0 (by decide)
   have d1:L 1=true:=hpre 1 (by decide)
   have d2:L 2=true:=hpre 2 (by decide)
   have d3:L 3=true:=hpre 3 (by decide)
   have d4:L 4=true:=hpre 4 (by decide)
   have d5:L 5=true:=hpre 5 (by decide)
   have d6:L 6=true:=hpre 6 (by decide)
   have d7:L 7=true:=hpre 7 (by decide)
   have d8:L 8=true:=hpre 8 (by decide)
   have d9:L 9=true:=hpre 9 (by decide)
   refine T2a c s f ho hst hL d0 d1 d2 d3 d4 d5 d6 d7 d8 d9 Q K fun a' w' h'=>hK a' w' ⟨h',fun h=>?_⟩
   rw[show lset L 10 0=true from d0]at h;cases h
 ·intro L a w hinv hall
  refine hQ a w ?_
  have h:=hinv.1
  unfold tmSt at h
  rw[hall 0 (by omega),hall 1 (by omega),hall 2 (by omega),hall 3 (by omega),hall 4 (by omega),hall 5 (by omega),hall 6 (by omega),hall 7 (by omega),hall 8 (by omega),hall 9 (by omega),hall 10 (by omega)]at h
  exact h
 ·have e:tmSt c s f (fun i=>(Array.replicate 11 false).getD i true)=tmS c s f (H0k false false c s) false false false false false false false false false:=by
   unfold tmSt
   dsimp only
   rw[hz 0 (by omega),hz 1 (by omega),hz 2 (by omega),hz 3 (by omega),hz 4 (by omega),hz 5 (by omega),hz 6 (by omega),hz 7 (by omega),hz 8 (by omega),hz 9 (by omega),hz 10 (by omega)]
  rw[e]
  obtain ⟨σ,u,hf,h1,h2,h3,h4,h5,h6⟩:=hst
  exact ⟨σ,u,hf.drew,h1,h2,h3,h4,h5,h6⟩
end Go.Ab
