/- A part of the proofs: lemmas, no statement of their own; no condition. -/
import Derived.Test.YtoocjipllmkjcaaGreatGRtF
import Derived.Test.YtoocjipllmkjcaaGreatGMoL
set_option linter.unusedSimpArgs false
namespace Go.Ab
open Go Go.Proofs
theorem fnorm_ok{a b c n:Int}(h:fnorm false a b c=(n,false)):num a=true∧num b=true∧num c=true∧n=isq (a*a+b*b+c*c)∧0≤n∧n≤4611686018427387904:=by
 unfold fnorm at h
 cases hb:(false||!nums? [a,b,c]) with
 | true=>rw[hb]at h;simp at h
 | false =>
  obtain ⟨_,ha,hb',hc⟩:=nums3 hb
  rw[hb,cond_false]at h
  obtain ⟨a5,a6⟩:=num_sq ha
  obtain ⟨b5,b6⟩:=num_sq hb'
  obtain ⟨c5,c6⟩:=num_sq hc
  have e126:(2:Int)^126=85070591730234615865843651857942052864:=by decide
  obtain ⟨i0,i1,_,_⟩:=isq_spec (W:=a*a+b*b+c*c) (by omega) (by omega)
  by_cases hq:isq (a*a+b*b+c*c)>4611686018427387904
  ·rw[decide_eq_true hq]at h;simp at h
  ·rw[decide_eq_false hq,cond_false,Prod.mk.injEq]at h
   exact ⟨ha,hb',hc,h.1.symm,by omega,by omega⟩
theorem fnorm_sq{a b c n:Int}(h:fnorm false a b c=(n,false)):n*n≤a*a+b*b+c*c∧a*a+b*b+c*c<(n+1)*(n+1)∧0≤a*a+b*b+c*c:=by
 obtain ⟨ha,hb,hc,rfl,h0,h1⟩:=fnorm_ok h
 obtain ⟨a5,a6⟩:=num_sq ha
 obtain ⟨b5,b6⟩:=num_sq hb
 obtain ⟨c5,c6⟩:=num_sq hc
 have e126:(2:Int)^126=85070591730234615865843651857942052864:=by decide
 obtain ⟨i0,i1,i2,i3⟩:=isq_spec (W:=a*a+b*b+c*c) (by omega) (by omega)
 exact ⟨i2,i3,by omega⟩
theorem le_of_sq_lt{a n:Int}(h0:0≤n)(h:a*a<(n+1)*(n+1)):-n≤a∧a≤n:=by
 constructor
 ·have:-a<n+1:=sq_lt_imp (by omega) (by rw[Int.neg_mul_neg];exact h)
  omega
 ·have:a<n+1:=sq_lt_imp (by omega) h
  omega
theorem sq_nonneg(a:Int):0≤a*a:=by
 rcases Int.le_total 0 a with h | h
 ·exact Int.mul_nonneg h h
 ·have :=Int.mul_nonneg (a:=-a) (b:=-a) (by omega) (by omega)
  rwa [Int.neg_mul_neg]at this
theorem fnorm_parts{a b c n:Int}(h:fnorm false a b c=(n,false)):(-n≤a∧a≤n)∧(-n≤b∧b≤n)∧(-n≤c∧c≤n):=by
 obtain ⟨_,_,_,_,h0,_⟩:=fnorm_ok h
 obtain ⟨_,h2,_⟩:=fnorm_sq h
 have p:=sq_nonneg a
 have q:=sq_nonneg b
 have r:=sq_nonneg c
 exact ⟨le_of_sq_lt h0 (by omega),le_of_sq_lt h0 (by omega),le_of_sq_lt h0 (by omega)⟩
theorem iabs_le{a n:Int}(h:-n≤a∧a≤n):iabs a≤n:=by
 unfold iabs
 by_cases h1:a<0
 ·simp only[h1,decide_true,cond_true];omega
 ·simp only[h1,decide_false,cond_false];omega
theorem iabs_nonneg(a:Int):0≤iabs a:=by
 unfold iabs
 by_cases h1:a<0
 ·simp only[h1,decide_true,cond_true];omega
 ·simp only[h1,decide_false,cond_false];omega
theorem iabs_of_nonneg{a:Int}(h:0≤a):iabs a=a:=by
 unfold iabs
 have h1:¬ a<0:=by omega
 simp only[h1,decide_false,cond_false]
def ratio3(a b c:Int):Int:=bif neg3 a b c then 0-rnd (iabs a*iabs b) (iabs c) else rnd (iabs a*iabs b) (iabs c)
theorem rnd_spec{N z:Int}(hz:0<z):2*N-z≤2*z*rnd N z∧2*z*rnd N z≤2*N+z:=by
 have r0:=Int.emod_nonneg N (b:=z) (by omega)
 have r1:=Int.emod_lt_of_pos N hz
 have e:N=z*(N / z)+N % z:=(Int.mul_ediv_add_emod N z).symm
 unfold rnd
 by_cases h:N % z≥z-N % z
 ·simp only[h,decide_true,cond_true]
  have:2*z*(N / z+1)=2*(z*(N / z))+2*z:=by rw[Int.mul_add,Int.mul_one,Int.mul_assoc]
  omega
 ·simp only[h,decide_false,cond_false]
  have:2*z*(N / z)=2*(z*(N / z)):=by rw[Int.mul_assoc]
  omega
theorem rnd_nonneg{N z:Int}(hN:0≤N)(hz:0<z):0≤rnd N z:=by
 have :=Int.ediv_nonneg hN (b:=z) (by omega)
 unfold rnd
 cases decide (N % z≥z-N % z)<;>simp only[cond_true,cond_false]<;>omega
theorem rnd_le{N z m:Int}(hz:0<z)(h:N≤z*m):rnd N z≤m:=by
 have r0:=Int.emod_nonneg N (b:=z) (by omega)
 have r1:=Int.emod_lt_of_pos N hz
 have e:N=z*(N / z)+N % z:=(Int.mul_ediv_add_emod N z).symm
 have hq:N / z≤m:=by
  have:z*(N / z)≤z*m:=by omega
  exact Int.le_of_mul_le_mul_left this hz
 unfold rnd
 by_cases h1:N % z≥z-N % z
 ·simp only[h1,decide_true,cond_true]
  rcases Int.lt_or_le (N / z) m with h2 | h2
  ·omega
  ·have:N / z=m:=by omega
   rw[this]at e
   omega
 ·simp only[h1,decide_false,cond_false]
  exact hq
theorem fratio_ok{a b c:Int}(hc:iabs c≠0)(h:iabs a*iabs b≤iabs c*4611686018427387904):fratio false a b c=(ratio3 a b c,false):=by
 have c0:=iabs_nonneg c
 have hz:0<iabs c:=by omega
 have hq:iabs a*iabs b / iabs c≤4611686018427387904:=by
  have :=Int.ediv_le_ediv hz h
  rwa [Int.mul_ediv_cancel_left _ (by omega)]at this
 have hr:=rnd_le hz h
 unfold fratio ratio3
 have e1:(iabs c==0)=false:=by simp;exact hc
 have e2:decide (iabs a*iabs b / iabs c>4611686018427387904)=false:=by simp;omega
 have e3:decide (rnd (iabs a*iabs b) (iabs c)>4611686018427387904)=false:=by simp;omega
 rw[e1,e2,e3]
 rfl
theorem fdiv_small{x n:Int}(hx:num x=true)(hn:num n=true)(h0:0<n)(h:-n≤x∧x≤n):fdiv false x n=(ratio3 x 1099511627776 n,false):=by
 have e:(false||!nums? [x,n])=false:=by simp[nums?,hx,hn]
 unfold fdiv
 rw[e,cond_false]
 have e1:iabs n=n:=iabs_of_nonneg (by omega)
 have e2:iabs 1099511627776=1099511627776:=rfl
 refine fratio_ok (by rw[e1];omega) ?_
 rw[e1,e2]
 have :=iabs_le h
 omega
end Go.Ab
namespace Go.Ab
open Go Go.Proofs
def neg4(q:V4):V4:=⟨IntKind.i64.wrap (0-q.w),IntKind.i64.wrap (0-q.x),IntKind.i64.wrap (0-q.y),IntKind.i64.wrap (0-q.z)⟩
def plain(q:V4):V4:=bif decide (q.z<0) then neg4 q else q
def qunit0(o:Ops)(q:V4)(n:Int)(f:Bool):V4×Bool :=
 let a:=o.div f q.w n
 let b:=o.div a.2 q.x n
 let c:=o.div b.2 q.y n
 let d:=o.div c.2 q.z n
 (⟨a.1,b.1,c.1,d.1⟩,d.2)
def qlen(o:Ops)(b:Bool)(q:V4):Int×Bool:=o.norm (o.norm b q.w q.x q.y).2 (o.norm b q.w q.x q.y).1 q.z 0
def qunitF(o:Ops)(q:V4)(n:Int)(f:Bool):V4×Bool:=(plain (qunit0 o q n f).1,(qunit0 o q n f).2)
def qunit(o:Ops)(b:Bool)(p:V4×Unit):V4×Bool:=qunitF o p.1 (qlen o b p.1).1 (bif decide ((qlen o b p.1).1<549755813888) then true else (qlen o b p.1).2)
def qunitT(o:Ops)(e:TypeId)(q:V4)(n:Int)(f:Bool):Option (AV×List Con) :=
 bif decide ((qunit0 o q n f).1.z<0) then some (.val (Cod.enc (neg4 (qunit0 o q n f).1)),row e (qunit0 o q n f).2) else some (.val (Cod.enc (qunit0 o q n f).1),row e (qunit0 o q n f).2)
theorem qunitT_eq(o:Ops)(e:TypeId)(q:V4)(n:Int)(f:Bool):qunitT o e q n f=some (.val (Cod.enc (qunitF o q n f).1),row e (qunitF o q n f).2):=pull
theorem unit72(o:Ops)(b:Bool)(q:V4):fnSum Tryz.prog {gam:=gamN o} [] 20 133 [.ptr 0 0,.val (Cod.enc q)] (row 57 b) =
  bif decide ((qlen o b q).1<549755813888) then qunitT o 57 q (qlen o b q).1 true else qunitT o 57 q (qlen o b q).1 (qlen o b q).2:=by kernel_rfl
theorem ok72:SumOk Tryz.prog 133 (S 57 (qunit opsF)):=S_ok gamN_ok 20 fun b a=>by
 refine (unit72 opsF b a.1).trans ?_
 rw[qunitT_eq,qunitT_eq]
 exact pull2 (F:=qunitF opsF a.1 (qlen opsF b a.1).1)
theorem fnorm_still(a b c:Int):fnorm true a b c=(0,true):=rfl
theorem qlen_ok{b:Bool}{q:V4}{n:Int}(h:qlen opsF b q=(n,false)):b=false∧(num q.w=true∧num q.x=true∧num q.y=true∧num q.z=true) ∧
  (-n≤q.w∧q.w≤n)∧(-n≤q.x∧q.x≤n)∧(-n≤q.y∧q.y≤n)∧(-n≤q.z∧q.z≤n)∧0≤n∧n≤4611686018427387904:=by
 unfold qlen at h
 simp only[opsF]at h
 cases b with
 | true=>rw[fnorm_still]at h;exact absurd h (by rw[fnorm_still];simp)
 | false =>
  rcases hm:fnorm false q.w q.x q.y with ⟨m,f⟩
  rw[hm]at h
  cases f with
  | true=>exact absurd h (by rw[fnorm_still];simp)
  | false =>
   obtain ⟨a1,a2,a3,_,a4,a5⟩:=fnorm_ok hm
   obtain ⟨p1,p2,p3⟩:=fnorm_parts hm
   obtain ⟨b1,b2,b3,_,b4,b5⟩:=fnorm_ok h
   obtain ⟨r1,r2,r3⟩:=fnorm_parts h
   exact ⟨rfl,⟨a1,a2,a3,b2⟩,by omega,by omega,by omega,r2,b4,b5⟩
end Go.Ab
namespace Go.Ab
open Go Go.Proofs
def muldiv(o:Ops)(k e:Int)(x:Int)(f:Bool):Int×Bool:=o.div (o.mul f x k).2 (o.mul f x k).1 e
def rod0(o:Ops)(p:V3)(d e:Int)(f:Bool):V4×Bool :=
 let r:=each3 f (muldiv o 8796093022208 e p.x) (muldiv o 8796093022208 e p.y) (muldiv o 8796093022208 e p.z)
 let s:=o.sub r.2 17592186044416 d
 let w:=o.div s.2 s.1 e
 (mk4 r.1 w.1,w.2)
def rodAt(o:Ops)(v:VOps)(b:Bool)(p:V3):V4×Bool :=
 let d:=v.dot b (p,p,())
 let e:=o.add d.2 17592186044416 d.1
 rod0 o p d.1 e.1 e.2
def fromRod(o:Ops)(v:VOps)(un:Bool→V4×Unit→V4×Bool)(b:Bool)(p:V3×Unit):V4×Bool:=un (rodAt o v b p.1).2 ((rodAt o v b p.1).1,())
theorem rod80(o:Ops)(v:VOps)(un:Bool→V4×Unit→V4×Bool)(b:Bool)(p:V3):fnSum Tryz.prog {gam:=(133,S 57 un) :: gamNV o v} [] 20 142 [.ptr 0 0,.val (Cod.enc p)] (row 57 b) =
  some (.val (Cod.enc (fromRod o v un b (p,())).1),row 57 (fromRod o v un b (p,())).2):=by kernel_rfl
def add4(o:Ops)(q:V4)(b:Bool):Bool:=(o.add (o.add (o.add (o.add b q.w 0).2 q.x 0).2 q.y 0).2 q.z 0).2
def torod0(o:Ops)(q:V4)(f:Bool):V3×Bool :=
 let e:=o.add f 1099511627776 q.z
 each3 e.2 (muldiv o 4398046511104 e.1 q.w) (muldiv o 4398046511104 e.1 q.x) (muldiv o 4398046511104 e.1 q.y)
def torodT(o:Ops)(e:TypeId)(q:V4)(f:Bool):Option (AV×List Con) :=
 bif (torod0 o q f).2 then some (.val (Cod.enc V3.zero),row e (torod0 o q f).2) else some (.val (Cod.enc (torod0 o q f).1),row e (torod0 o q f).2)
theorem torodT_eq(o:Ops)(e:TypeId)(q:V4)(f:Bool):torodT o e q f=some (.val (Cod.enc (done3 (torod0 o q f)).1),row e (done3 (torod0 o q f)).2):=pull
def toRod(o:Ops)(b:Bool)(p:V4×Unit):V3×Bool:=bif add4 o p.1 b then (V3.zero,add4 o p.1 b) else done3 (torod0 o (plain p.1) (add4 o p.1 b))
def torodS(o:Ops)(e:TypeId)(q:V4)(b:Bool):Option (AV×List Con) :=
 bif add4 o q b then some (.val (Cod.enc V3.zero),row e (add4 o q b)) else bif decide (q.z<0) then torodT o e (neg4 q) (add4 o q b) else torodT o e q (add4 o q b)
theorem torodS_eq(o:Ops)(e:TypeId)(q:V4)(b:Bool):torodS o e q b=some (.val (Cod.enc (toRod o b (q,())).1),row e (toRod o b (q,())).2):=by
 unfold torodS toRod plain
 rw[torodT_eq,torodT_eq]
 dsimp only
 cases add4 o q b<;>cases decide (q.z<0)<;>rfl
theorem torod82(o:Ops)(b:Bool)(q:V4):fnSum Tryz.prog {gam:=gamN o} [] 20 134 [.ptr 0 0,.val (Cod.enc q)] (row 57 b)=torodS o 57 q b:=by kernel_rfl
theorem ok80:SumOk Tryz.prog 142 (S 57 (fromRod opsF vopsF (qunit opsF))):=S_ok (E:={gam:=(133,S 57 (qunit opsF)) :: gamNV opsF vopsF}) (.cons ok72 gamNV_ok) 20 fun b a=>rod80 opsF vopsF (qunit opsF) b a.1
theorem ok82:SumOk Tryz.prog 134 (S 57 (toRod opsF)):=S_ok gamN_ok 20 fun b a=>(torod82 opsF b a.1).trans (torodS_eq opsF 57 a.1 b)
end Go.Ab
namespace Go.Ab
open Go Go.Proofs
structure PlOps where
 o:Ops
 sn:Bool→Int×Unit→Int×Bool
 cs:Bool→Int×Unit→Int×Bool
 dy:Bool→Int×Unit→Int×Bool
 kp:Bool→Int×Int×Unit→Int×Bool
 ok:Orb×Unit→Bool
 rt:Int×Unit→Bool
structure PH where
 a:Int
 b:Int
 c:Int
 s:Int
 node:Int
def plHead(F:PlOps)(f:Bool)(q:Orb)(tk:Int):PH×Bool :=
 let o:=F.o
 let d1:=F.dy f (tk,())
 let d2:=F.dy d1.2 (q.tk,())
 let d:=o.sub d2.2 d1.1 d2.1
 let n1:=o.div d.2 3271636820114455529 q.a
 let n2:=o.sqrt n1.2 n1.1
 let n:=o.div n2.2 n2.1 q.a
 let r1:=o.mul n.2 q.e q.e
 let r2:=o.sub r1.2 1099511627776 r1.1
 let r:=o.sqrt r2.2 r2.1
 let k1:=o.mul r.2 r.1 r.1
 let k2:=o.mul k1.2 q.a k1.1
 let k3:=o.div k2.2 7012835795048 k2.1
 let k4:=o.mul k3.2 k3.1 k3.1
 let k5:=o.mul k4.2 1785540935 k4.1
 let k:=o.mul k5.2 k5.1 n.1
 let s:=F.sn k.2 (q.i,())
 let c:=F.cs s.2 (q.i,())
 let t:=o.mul c.2 s.1 s.1
 let a1:=o.mul t.2 k.1 c.1
 let a2:=o.mul a1.2 a1.1 d.1
 let node:=o.sub a2.2 q.node a2.1
 let p1:=o.part node.2 t.1 5 2
 let p2:=o.sub p1.2 2199023255552 p1.1
 let p3:=o.mul p2.2 k.1 p2.1
 let p4:=o.mul p3.2 p3.1 d.1
 let peri:=o.add p4.2 q.peri p4.1
 let w1:=o.mul peri.2 k.1 r.1
 let w2:=o.part w1.2 t.1 3 2
 let w3:=o.sub w2.2 1099511627776 w2.1
 let w:=o.mul w3.2 w1.1 w3.1
 let x1:=o.add w.2 n.1 w.1
 let x2:=o.mul x1.2 x1.1 d.1
 let x3:=o.add x2.2 q.m x2.1
 let x4:=o.mod x3.2 x3.1 6908435304716
 let x:=F.kp x4.2 (x4.1,q.e,())
 let u1:=F.cs x.2 (x.1,())
 let u2:=o.sub u1.2 u1.1 q.e
 let u:=o.mul u2.2 q.a u2.1
 let v1:=o.mul u.2 q.a r.1
 let v2:=F.sn v1.2 (x.1,())
 let v:=o.mul v2.2 v1.1 v2.1
 let e:=aboutO o F.sn F.cs v.2 (u.1,v.1,peri.1,())
 (⟨e.1.a,e.1.b,c.1,s.1,node.1⟩,e.2)
def plTailP(F:PlOps)(h:PH×Bool):V3×Bool :=
 let bc:=F.o.mul h.2 h.1.b h.1.c
 let e:=aboutO F.o F.sn F.cs bc.2 (h.1.a,bc.1,h.1.node,())
 let z:=F.o.mul e.2 h.1.b h.1.s
 (⟨e.1.a,e.1.b,z.1⟩,z.2)
def plT(e:TypeId)(ok rt b:Bool)(r:V3×Bool):Option (AV×List Con) :=
 bif !ok then some (.val (Cod.enc V3.zero),row e true) else bif !rt then some (.val (Cod.enc V3.zero),row e true) else bif b then some (.val (Cod.enc V3.zero),row e b) else
  bif r.2 then some (.val (Cod.enc V3.zero),row e r.2) else some (.val (Cod.enc r.1),row e r.2)
def gamPl(F:PlOps):Gam:=(212,S0 F.ok) :: (181,S0 F.ok) :: (87,S0 F.rt) :: (94,S0 F.rt) :: (213,S 57 F.dy) :: (182,S 59 F.dy) :: (216,S 57 F.kp) :: (186,S 59 F.kp) :: (218,S 57 (aboutO F.o F.sn F.cs)) :: gamS F.o F.sn F.cs
theorem place168(F:PlOps)(b:Bool)(q:Orb)(tk:Int):fnSum Tryz.prog {gam:=gamPl F} [] 20 168 [.ptr 0 0,.val (Cod.enc q),.val (.int .i64 tk)] (row 57 b) =
  plT 57 (F.ok (q,())) (F.rt (tk,())) b (plTailP F (plHead F b q tk)):=by kernel_rfl
end Go.Ab
namespace Go.Ab
open Go Go.Proofs
section
variable {F:PlOps} (hm:∀x y,F.o.mul true x y=(0,true)) (ha:∀x y,F.o.add true x y=(0,true)) (hs:∀x y,F.o.sub true x y=(0,true)) (hc:∀p,F.cs true p=(0,true)) (hn:∀p,F.sn true p=(0,true))
include hm ha hs hc hn
end
def PF:PlOps:={o:=opsF,sn:=sinV,cs:=cosV,dy:=vdays opsF,kp:=kepV,ok:=fun p=>orbRight p.1,rt:=fun p=>isTick p.1}
def placeO(F:PlOps)(b:Bool)(p:Orb×Int×Unit):V3×Bool :=
 bif !F.ok (p.1,()) then (V3.zero,true) else bif !F.rt (p.2.1,()) then (V3.zero,true) else bif b then (V3.zero,b) else done3 (plTailP F (plHead F b p.1 p.2.1))
theorem plT_eq(e:TypeId)(ok rt b:Bool)(r:V3×Bool):plT e ok rt b r=some (.val (Cod.enc (bif !ok then (V3.zero,true) else bif !rt then (V3.zero,true) else bif b then (V3.zero,b) else done3 r).1),row e (bif !ok then (V3.zero,true) else bif !rt then (V3.zero,true) else bif b then (V3.zero,b) else done3 r).2):=by
 unfold plT done3
 cases ok<;>cases rt<;>cases b<;>cases r.2<;>rfl
def placeV:Bool→Orb×Int×Unit→V3×Bool:=placeO PF
theorem PF_o:PF.o=opsF:=by simp only[PF]
theorem PF_sn:PF.sn=sinV:=by simp only[PF]
theorem PF_cs:PF.cs=cosV:=by simp only[PF]
theorem PF_dy:PF.dy=vdays opsF:=by simp only[PF]
theorem PF_kp:PF.kp=kepV:=by simp only[PF]
theorem PF_ok:PF.ok=fun p=>orbRight p.1:=by simp only[PF]
theorem PF_rt:PF.rt=fun p=>isTick p.1:=by simp only[PF]
theorem gamPl_ok:GamOk Tryz.prog (gamPl PF):=by
 unfold gamPl
 rw[PF_o,PF_sn,PF_cs,PF_dy,PF_kp,PF_ok,PF_rt]
 exact .cons okRight (.cons okRightR (.cons ok40 (.cons ok41 (.cons ok38 (.cons ok39 (.cons okKep (.cons okKepR (.cons okAbout gamS_ok))))))))
theorem okPlace:SumOk Tryz.prog 168 (S 57 placeV):=S_ok gamPl_ok 20 fun b a=>(place168 PF b a.1 a.2.1).trans (plT_eq ..)
end Go.Ab
namespace Go.Ab
open Go Go.Proofs
structure SH where
 d:Int
 g:Int
 q:Int
def goesO(o:Ops)(b:Bool)(p:Int×Int×Int×Unit):Int×Bool :=
 let m:=o.mul b p.2.1 p.2.2.1
 let a:=o.add m.2 p.1 m.1
 o.mod a.2 a.1 6908435304716
theorem goes219(o:Ops)(b:Bool)(x y z:Int):fnSum Tryz.prog {gam:=gamN o} [] 20 219 [.ptr 0 0,.val (.int .i64 x),.val (.int .i64 y),.val (.int .i64 z)] (row 57 b) =
  some (.val (Cod.enc (goesO o b (x,y,z,())).1),row 57 (goesO o b (x,y,z,())).2):=by kernel_rfl
def snHead(F:PlOps)(b:Bool)(tk:Int):SH×Bool :=
 let d:=F.dy b (tk,())
 let g:=goesO F.o d.2 (6870645337657,18913766030,d.1,())
 let q:=goesO F.o g.2 (5399914965875,18914669500,d.1,())
 (⟨d.1,g.1,q.1⟩,q.2)
def snMidP(F:PlOps)(h:SH×Bool):Int×Bool :=
 let s:=F.sn h.2 (h.1.g,())
 let m:=F.o.mul s.2 36749037801 s.1
 let a:=F.o.add m.2 h.1.q m.1
 let t:=F.sn a.2 (w64 (2*h.1.g),())
 let n:=F.o.mul t.2 383801961 t.1
 F.o.add n.2 a.1 n.1
def snTail(F:PlOps)(d:Int)(l:Int×Bool):V3×Bool :=
 let p:=F.o.mul l.2 6908 d
 let e:=F.o.sub p.2 449733620800 p.1
 let s:=F.sn e.2 (l.1,())
 let x:=F.cs s.2 (l.1,())
 let c:=F.cs x.2 (e.1,())
 let y:=F.o.mul c.2 c.1 s.1
 let t:=F.sn y.2 (e.1,())
 let z:=F.o.mul t.2 t.1 s.1
 (⟨x.1,y.1,z.1⟩,z.2)
def gamSn(F:PlOps):Gam:=(219,S 57 (goesO F.o)) :: gamPl F
def snT(e:TypeId)(r:V3×Bool):Option (AV×List Con):=bif r.2 then some (.val (Cod.enc V3.zero),row e r.2) else some (.val (Cod.enc r.1),row e r.2)
theorem sun169(F:PlOps)(b:Bool)(tk:Int):fnSum Tryz.prog {gam:=gamSn F} [] 20 169 [.ptr 0 0,.val (.int .i64 tk)] (row 57 b) =
  snT 57 (snTail F (snHead F b tk).1.d (snMidP F (snHead F b tk))):=by kernel_rfl
theorem snT_eq(e:TypeId)(r:V3×Bool):snT e r=some (.val (Cod.enc (done3 r).1),row e (done3 r).2):=by
 unfold snT done3
 cases r.2<;>rfl
section
variable {F:PlOps} (hm:∀x y,F.o.mul true x y=(0,true)) (ha:∀x y,F.o.add true x y=(0,true)) (hs:∀x y,F.o.sub true x y=(0,true)) (hc:∀p,F.cs true p=(0,true)) (hn:∀p,F.sn true p=(0,true))
include hm ha hs hc hn
end
def sunV(b:Bool)(p:Int×Unit):V3×Bool:=done3 (snTail PF (snHead PF b p.1).1.d (snMidP PF (snHead PF b p.1)))
theorem okGoes:SumOk Tryz.prog 219 (S 57 (goesO opsF)):=S_ok gamN_ok 20 fun b a=>goes219 opsF b a.1 a.2.1 a.2.2.1
theorem gamSn_ok:GamOk Tryz.prog (gamSn PF):=by
 unfold gamSn
 rw[PF_o]
 exact .cons okGoes gamPl_ok
theorem okSun:SumOk Tryz.prog 169 (S 57 sunV):=S_ok gamSn_ok 20 fun b a=>(sun169 PF b a.1).trans (snT_eq ..)
structure ShadeN where
 c:Int
 n:Int
def shade0(v:VOps)(b:Bool)(p s:V3):ShadeN×Bool :=
 let c:=v.dot b (p,s,())
 let t:=v.scale c.2 (s,c.1,())
 let d:=v.sub t.2 (p,t.1,())
 let n:=v.norm d.2 (d.1,())
 (⟨c.1,n.1⟩,n.2)
def shadeT(e:TypeId)(r:ShadeN×Bool):Option (AV×List Con) :=
 bif !r.2 then bif decide (r.1.c<0) then some (.val (Cod.enc (decide (r.1.n<7012835795048))),row e r.2) else some (.val (Cod.enc false),row e r.2) else some (.val (Cod.enc false),row e r.2)
theorem shade171(v:VOps)(b:Bool)(p s:V3):fnSum Tryz.prog {gam:=gamV v} [] 20 171 [.ptr 0 0,.val (Cod.enc p),.val (Cod.enc s)] (row 57 b)=shadeT 57 (shade0 v b p s):=by kernel_rfl
def shadeF(v:VOps)(b:Bool)(p:V3×V3×Unit):Bool×Bool:=(!(shade0 v b p.1 p.2.1).2&&(decide ((shade0 v b p.1 p.2.1).1.c<0)&&decide ((shade0 v b p.1 p.2.1).1.n<7012835795048)),(shade0 v b p.1 p.2.1).2)
theorem shadeT_eq(e:TypeId)(r:ShadeN×Bool):shadeT e r=some (.val (Cod.enc (!r.2&&(decide (r.1.c<0)&&decide (r.1.n<7012835795048)))),row e r.2):=by
 unfold shadeT
 cases r.2<;>cases decide (r.1.c<0)<;>rfl
def shadeV:Bool→V3×V3×Unit→Bool×Bool:=shadeF vopsF
theorem okShade:SumOk Tryz.prog 171 (S 57 shadeV):=S_ok gamV_ok 20 fun b a=>(shade171 vopsF b a.1 a.2.1).trans (shadeT_eq ..)
end Go.Ab
namespace Go.Ab
open Go Go.Proofs
def kI(n:Nat):Value:=.int .i64 (n:Int)
def key2(n m:Nat):Value:=.agg #[kI n,kI m]
def val3(p d q:Int):Value:=.agg #[.int .i64 p,.int .i64 d,.int .i64 q]
noncomputable def tmC:Code:=Tryz.f245.body.getD .skip
noncomputable def tm0:Code:=seqL tmC
noncomputable def tm1:Code:=seqL (seqR tmC)
noncomputable def tm2:Code:=seqL (seqR (seqR tmC))
noncomputable def tm3:Code:=seqL (seqL (seqR (seqR (seqR tmC))))
noncomputable def tmL:Code:=inB (inB (seqR (seqL (seqR (seqR (seqR tmC))))))
noncomputable def tmE:Code:=seqR (seqR (seqR (seqR tmC)))
def regOps:Code→Array Oper
 | .region _ ops _=>ops
 | _=>#[]
noncomputable def tmOps:Array Oper:=regOps tm1
theorem tm1_is:tm1=.region 1 tmOps true:=by kernel_rfl
theorem tmOps_size:tmOps.size=11:=by kernel_rfl
theorem tmOps_bind:tmOps.toList.map binding=[[],[],[],[0,1,2],[],[],[],[5,6],[0,4,7],[0,1,2,3,4,5,6,7,8],[9,0,1,2,3,4,5,6,7,8,9]]:=by kernel_rfl
theorem tm_mixed:Tryz.prog.follows .mixedOrders=true:=by kernel_rfl
theorem tm_bind{j:Nat}{o:Oper}(h:tmOps[j]?=some o):[[],[],[],[0,1,2],[],[],[],[5,6],[0,4,7],[0,1,2,3,4,5,6,7,8],[9,0,1,2,3,4,5,6,7,8,9]][j]?=some (binding o):=by
 have :=congrArg (fun l=>l[j]?) tmOps_bind
 simp only[List.getElem?_map,Array.getElem?_toList,h,Option.map_some]at this
 exact this.symm
theorem tm_edge(i:Nat)(o:Oper)(h:tmOps[i]?=some o):∀k∈binding o,k<i:=by
 have h0:=tm_bind h
 have hi:i<11:=by rw[← tmOps_size];exact (Array.getElem?_eq_some_iff.1 h).1
 match i,hi with
 | 0,_=>simp only[List.getElem?_cons_zero,List.getElem?_cons_succ,Option.some.injEq]at h0;rw[← h0];decide
 | 1,_=>simp only[List.getElem?_cons_zero,List.getElem?_cons_succ,Option.some.injEq]at h0;rw[← h0];decide
 | 2,_=>simp only[List.getElem?_cons_zero,List.getElem?_cons_succ,Option.some.injEq]at h0;rw[← h0];decide
 | 3,_=>simp only[List.getElem?_cons_zero,List.getElem?_cons_succ,Option.some.injEq]at h0;rw[← h0];decide
 | 4,_=>simp only[List.getElem?_cons_zero,List.getElem?_cons_succ,Option.some.injEq]at h0;rw[← h0];decide
 | 5,_=>simp only[List.getElem?_cons_zero,List.getElem?_cons_succ,Option.some.injEq]at h0;rw[← h0];decide
 | 6,_=>simp only[List.getElem?_cons_zero,List.getElem?_cons_succ,Option.some.injEq]at h0;rw[← h0];decide
 | 7,_=>simp only[List.getElem?_cons_zero,List.getElem?_cons_succ,Option.some.injEq]at h0;rw[← h0];decide
 | 8,_=>simp only[List.getElem?_cons_zero,List.getElem?_cons_succ,Option.some.injEq]at h0;rw[← h0];decide
 | 9,_=>simp only[List.getElem?_cons_zero,List.getElem?_cons_succ,Option.some.injEq]at h0;rw[← h0];decide
 | 10,_=>simp only[List.getElem?_cons_zero,List.getElem?_cons_succ,Option.some.injEq]at h0;rw[← h0];decide
def tmBuf(b3 b8:Bool)(c s:Int):List Value:=[key2 0 0,.bool b3,val3 1099511627776 0 0,key2 1 1,.bool b8,val3 s c 1099511627776]
def tmHp(b0:Bool)(f:Bool)(ob:Obj):Hp:=bif b0 then [(0,.row 57 [.val (.bool f)]),(4096,.row 55 [.ptr 0 0]),((4096+1*2^180),.obj ob)]else [(0,.row 57 [.val (.bool f)]),(4096,.row 55 [.ptr 0 0])]
def tmMap(b3 b8:Bool)(c s:Int):Obj:=.chan 1 (List.toArray (tmBuf b3 b8 c s)) false 0 0 false
def tmS(c s:Int)(f:Bool)(ob:Obj)(b0 b1 b2 b4 b5 b6 b7 b9 b10:Bool):St:=gSt 181 [(1,.val (.int .i64 c)),(2,.val (.int .i64 s)),(3,.ptr 4096 0),(17,bif b0 then .map (4096+1*2^180) else .any),(18,bif b1 then .val (key2 0 0) else .any),(19,bif b2 then .val (val3 1099511627776 0 0) else .any),(20,bif b4 then .val (key2 1 1) else .any),
 (21,bif b5 then .val (.int .i64 s) else .any),(22,bif b6 then .val (.int .i64 c) else .any),(23,bif b7 then .val (val3 s c 1099511627776) else .any),(24,bif b9 then .map (4096+1*2^180) else .any),(7,bif b10 then .map (4096+1*2^180) else .any)] (tmHp b0 f ob) (bif b0 then (4096+2*2^180) else (4096+1*2^180))
theorem tmOp0(c s:Int)(f:Bool)(b1 b2 b3 b4 b5 b6 b7 b8 b9 b10:Bool):(tmOps[0]?).bind (fun o=>opGo Tryz.prog {gam:=[]} 181 tmOps o (tmS c s f (tmMap b3 b8 c s) false b1 b2 b4 b5 b6 b7 b9 b10))=some (tmS c s f (.map #[] 0) true b1 b2 b4 b5 b6 b7 b9 b10):=by kernel_rfl
theorem tmOp1(c s:Int)(f:Bool)(b0 b2 b3 b4 b5 b6 b7 b8 b9 b10:Bool):(tmOps[1]?).bind (fun o=>opGo Tryz.prog {gam:=[]} 181 tmOps o (tmS c s f (tmMap b3 b8 c s) b0 false b2 b4 b5 b6 b7 b9 b10))=some (tmS c s f (tmMap b3 b8 c s) b0 true b2 b4 b5 b6 b7 b9 b10):=by kernel_rfl
theorem tmOp2(c s:Int)(f:Bool)(b0 b1 b3 b4 b5 b6 b7 b8 b9 b10:Bool):(tmOps[2]?).bind (fun o=>opGo Tryz.prog {gam:=[]} 181 tmOps o (tmS c s f (tmMap b3 b8 c s) b0 b1 false b4 b5 b6 b7 b9 b10))=some (tmS c s f (tmMap b3 b8 c s) b0 b1 true b4 b5 b6 b7 b9 b10):=by kernel_rfl
theorem tmOp3(c s:Int)(f:Bool)(b4 b5 b6 b7 b8 b9 b10:Bool):(tmOps[3]?).bind (fun o=>opGo Tryz.prog {gam:=[]} 181 tmOps o (tmS c s f (tmMap false b8 c s) true true true b4 b5 b6 b7 b9 b10))=some (tmS c s f (tmMap true b8 c s) true true true b4 b5 b6 b7 b9 b10):=by kernel_rfl
theorem tmOp4(c s:Int)(f:Bool)(b0 b1 b2 b3 b5 b6 b7 b8 b9 b10:Bool):(tmOps[4]?).bind (fun o=>opGo Tryz.prog {gam:=[]} 181 tmOps o (tmS c s f (tmMap b3 b8 c s) b0 b1 b2 false b5 b6 b7 b9 b10))=some (tmS c s f (tmMap b3 b8 c s) b0 b1 b2 true b5 b6 b7 b9 b10):=by kernel_rfl
theorem tmOp5(c s:Int)(f:Bool)(b0 b1 b2 b3 b4 b6 b7 b8 b9 b10:Bool):(tmOps[5]?).bind (fun o=>opGo Tryz.prog {gam:=[]} 181 tmOps o (tmS c s f (tmMap b3 b8 c s) b0 b1 b2 b4 false b6 b7 b9 b10))=some (tmS c s f (tmMap b3 b8 c s) b0 b1 b2 b4 true b6 b7 b9 b10):=by kernel_rfl
theorem tmOp6(c s:Int)(f:Bool)(b0 b1 b2 b3 b4 b5 b7 b8 b9 b10:Bool):(tmOps[6]?).bind (fun o=>opGo Tryz.prog {gam:=[]} 181 tmOps o (tmS c s f (tmMap b3 b8 c s) b0 b1 b2 b4 b5 false b7 b9 b10))=some (tmS c s f (tmMap b3 b8 c s) b0 b1 b2 b4 b5 true b7 b9 b10):=by kernel_rfl
theorem tmOp7(c s:Int)(f:Bool)(b0 b1 b2 b3 b4 b8 b9 b10:Bool):(tmOps[7]?).bind (fun o=>opGo Tryz.prog {gam:=[]} 181 tmOps o (tmS c s f (tmMap b3 b8 c s) b0 b1 b2 b4 true true false b9 b10))=some (tmS c s f (tmMap b3 b8 c s) b0 b1 b2 b4 true true true b9 b10):=by kernel_rfl
theorem tmOp8(c s:Int)(f:Bool)(b1 b2 b3 b5 b6 b9 b10:Bool):(tmOps[8]?).bind (fun o=>opGo Tryz.prog {gam:=[]} 181 tmOps o (tmS c s f (tmMap b3 false c s) true b1 b2 true b5 b6 true b9 b10))=some (tmS c s f (tmMap b3 true c s) true b1 b2 true b5 b6 true b9 b10):=by kernel_rfl
theorem tmOp9(c s:Int)(f:Bool)(b10:Bool):(tmOps[9]?).bind (fun o=>opGo Tryz.prog {gam:=[]} 181 tmOps o (tmS c s f (tmMap true true c s) true true true true true true true false b10))=some (tmS c s f (tmMap true true c s) true true true true true true true true b10):=by kernel_rfl
theorem tmOp10(c s:Int)(f:Bool):(tmOps[10]?).bind (fun o=>opGo Tryz.prog {gam:=[]} 181 tmOps o (tmS c s f (tmMap true true c s) true true true true true true true true false))=some (tmS c s f (tmMap true true c s) true true true true true true true true true):=by kernel_rfl
def tmSt(c s:Int)(f:Bool)(L:Nat→Bool):St:=tmS c s f (tmMap (L 3) (L 8) c s) (L 0) (L 1) (L 2) (L 4) (L 5) (L 6) (L 7) (L 9) (L 10)
theorem hget_last{m:Nat}{x y:Con}{b:Nat}{c:Con}:∀{r:Hp},hget (r++[(m,x)]) b=some c→(b=m∧c=x)∨hget (r++[(m,y)]) b=some c
 | [],h=>by
  simp only[List.nil_append,hget]at h ⊢
  split at h
  ·rename_i e
   exact .inl ⟨(Nat.eq_of_beq_eq_true e).symm,(Option.some.inj h).symm⟩
  ·cases h
 | (k,z) :: r,h=>by
  simp only[List.cons_append,hget]at h ⊢
  split at h
  ·exact .inr h
  ·exact hget_last h
theorem tm_lo(c s:Int)(f b1 b2 b4 b5 b6 b7 b9 b10:Bool)(ob ob1:Obj):(tmS c s f ob true b1 b2 b4 b5 b6 b7 b9 b10).lo≤(tmS c s f ob1 false b1 b2 b4 b5 b6 b7 b9 b10).hi :=
 show (4096+2*2^180:Nat)≤4096+2^200 from Nat.le_of_ble_eq_true (by kernel_rfl)
theorem tm_retell(c s:Int)(f b1 b2 b4 b5 b6 b7 b9 b10:Bool){w0:World}{own:Nat→Prop}{σ0:Nat→Option Nat}{lo0 hi0:Nat}{a:Act}{w:World}(h:StFits 181 w0 own σ0 lo0 hi0 (tmS c s f (.map #[] 0) true b1 b2 b4 b5 b6 b7 b9 b10) a w) :
  StFits 181 w0 own σ0 lo0 hi0 (tmS c s f (tmMap false false c s) true b1 b2 b4 b5 b6 b7 b9 b10) a w:=by
 refine h.retell ((4096+1*2^180)) (ob:=.map #[] 0) (ob1:=tmMap false false c s) (by kernel_rfl) (fun o ho=>?_) rfl (fun b c hb=>?_) rfl rfl
 ·have ho:o=.map #[] 0:=ho
  subst ho
  exact ⟨#[],0,rfl,List.Perm.nil⟩
 ·exact hget_last (r:=[(0,.row 57 [.val (.bool f)]),(4096,.row 55 [.ptr 0 0])]) hb
theorem tm_step0(c s:Int)(f:Bool){L:Nat→Bool}{o:Oper}(ho:tmOps[0]?=some o){w0:World}{own:Nat→Prop}{σ0:Nat→Option Nat}{lo0 hi0:Nat}{a:Act}{w:World}(hst:StFits 181 w0 own σ0 lo0 hi0 (tmSt c s f L) a w)(hL:L 0=false)(n3:L 3=false)(n8:L 8=false)(Q:Exit→Act→World→Prop)(K:Act→World→Prop)
  (hK:∀a' w',StFits 181 w0 own σ0 lo0 hi0 (tmSt c s f (lset L 0)) a' w'→K a' w'):wpOp Tryz.prog tmOps Q 0 K a w:=by
 unfold tmSt at hst
 rw[hL]at hst
 rw[n3,n8]at hst
 have e:=tmOp0 c s f (L 1) (L 2) false (L 4) (L 5) (L 6) (L 7) false (L 9) (L 10)
 rw[ho,Option.bind_some]at e
 refine step_op .nil ho e (.inl (tm_lo ..)) hst Q K fun a' w' h'=>hK a' w' ?_
 unfold tmSt
 rw[show lset L 0 0=true from lset_at L 0,show lset L 0 1=L 1 from rfl,show lset L 0 2=L 2 from rfl,show lset L 0 3=false from n3,show lset L 0 4=L 4 from rfl,show lset L 0 5=L 5 from rfl,show lset L 0 6=L 6 from rfl,show lset L 0 7=L 7 from rfl,show lset L 0 8=false from n8,show lset L 0 9=L 9 from rfl,show lset L 0 10=L 10 from rfl]
 exact tm_retell c s f _ _ _ _ _ _ _ _ h'
theorem tm_step1(c s:Int)(f:Bool){L:Nat→Bool}{o:Oper}(ho:tmOps[1]?=some o){w0:World}{own:Nat→Prop}{σ0:Nat→Option Nat}{lo0 hi0:Nat}{a:Act}{w:World}(hst:StFits 181 w0 own σ0 lo0 hi0 (tmSt c s f L) a w)(hL:L 1=false)(Q:Exit→Act→World→Prop)(K:Act→World→Prop)
  (hK:∀a' w',StFits 181 w0 own σ0 lo0 hi0 (tmSt c s f (lset L 1)) a' w'→K a' w'):wpOp Tryz.prog tmOps Q 1 K a w:=by
 unfold tmSt at hst
 rw[hL]at hst
 have e:=tmOp1 c s f (L 0) (L 2) (L 3) (L 4) (L 5) (L 6) (L 7) (L 8) (L 9) (L 10)
 rw[ho,Option.bind_some]at e
 refine step_op .nil ho e (.inr rfl) hst Q K fun a' w' h'=>hK a' w' ?_
 unfold tmSt
 rw[show lset L 1 0=L 0 from rfl,show lset L 1 1=true from lset_at L 1,show lset L 1 2=L 2 from rfl,show lset L 1 3=L 3 from rfl,show lset L 1 4=L 4 from rfl,show lset L 1 5=L 5 from rfl,show lset L 1 6=L 6 from rfl,show lset L 1 7=L 7 from rfl,show lset L 1 8=L 8 from rfl,show lset L 1 9=L 9 from rfl,show lset L 1 10=L 10 from rfl]
 exact h'
theorem tm_step2(c s:Int)(f:Bool){L:Nat→Bool}{o:Oper}(ho:tmOps[2]?=some o){w0:World}{own:Nat→Prop}{σ0:Nat→Option Nat}{lo0 hi0:Nat}{a:Act}{w:World}(hst:StFits 181 w0 own σ0 lo0 hi0 (tmSt c s f L) a w)(hL:L 2=false)(Q:Exit→Act→World→Prop)(K:Act→World→Prop)
  (hK:∀a' w',StFits 181 w0 own σ0 lo0 hi0 (tmSt c s f (lset L 2)) a' w'→K a' w'):wpOp Tryz.prog tmOps Q 2 K a w:=by
 unfold tmSt at hst
 rw[hL]at hst
 have e:=tmOp2 c s f (L 0) (L 1) (L 3) (L 4) (L 5) (L 6) (L 7) (L 8) (L 9) (L 10)
 rw[ho,Option.bind_some]at e
 refine step_op .nil ho e (.inr rfl) hst Q K fun a' w' h'=>hK a' w' ?_
 unfold tmSt
 rw[show lset L 2 0=L 0 from rfl,show lset L 2 1=L 1 from rfl,show lset L 2 2=true from lset_at L 2,show lset L 2 3=L 3 from rfl,show lset L 2 4=L 4 from rfl,show lset L 2 5=L 5 from rfl,show lset L 2 6=L 6 from rfl,show lset L 2 7=L 7 from rfl,show lset L 2 8=L 8 from rfl,show lset L 2 9=L 9 from rfl,show lset L 2 10=L 10 from rfl]
 exact h'
theorem tm_step3(c s:Int)(f:Bool){L:Nat→Bool}{o:Oper}(ho:tmOps[3]?=some o){w0:World}{own:Nat→Prop}{σ0:Nat→Option Nat}{lo0 hi0:Nat}{a:Act}{w:World}(hst:StFits 181 w0 own σ0 lo0 hi0 (tmSt c s f L) a w)(hL:L 3=false)(d0:L 0=true)(d1:L 1=true)(d2:L 2=true)(Q:Exit→Act→World→Prop)(K:Act→World→Prop)
  (hK:∀a' w',StFits 181 w0 own σ0 lo0 hi0 (tmSt c s f (lset L 3)) a' w'→K a' w'):wpOp Tryz.prog tmOps Q 3 K a w:=by
 unfold tmSt at hst
 rw[hL,d0,d1,d2]at hst
 have e:=tmOp3 c s f (L 4) (L 5) (L 6) (L 7) (L 8) (L 9) (L 10)
 rw[ho,Option.bind_some]at e
 refine step_op .nil ho e (.inr rfl) hst Q K fun a' w' h'=>hK a' w' ?_
 unfold tmSt
 rw[show lset L 3 0=true from d0,show lset L 3 1=true from d1,show lset L 3 2=true from d2,show lset L 3 3=true from lset_at L 3,show lset L 3 4=L 4 from rfl,show lset L 3 5=L 5 from rfl,show lset L 3 6=L 6 from rfl,show lset L 3 7=L 7 from rfl,show lset L 3 8=L 8 from rfl,show lset L 3 9=L 9 from rfl,show lset L 3 10=L 10 from rfl]
 exact h'
theorem tm_step4(c s:Int)(f:Bool){L:Nat→Bool}{o:Oper}(ho:tmOps[4]?=some o){w0:World}{own:Nat→Prop}{σ0:Nat→Option Nat}{lo0 hi0:Nat}{a:Act}{w:World}(hst:StFits 181 w0 own σ0 lo0 hi0 (tmSt c s f L) a w)(hL:L 4=false)(Q:Exit→Act→World→Prop)(K:Act→World→Prop)
  (hK:∀a' w',StFits 181 w0 own σ0 lo0 hi0 (tmSt c s f (lset L 4)) a' w'→K a' w'):wpOp Tryz.prog tmOps Q 4 K a w:=by
 unfold tmSt at hst
 rw[hL]at hst
 have e:=tmOp4 c s f (L 0) (L 1) (L 2) (L 3) (L 5) (L 6) (L 7) (L 8) (L 9) (L 10)
 rw[ho,Option.bind_some]at e
 refine step_op .nil ho e (.inr rfl) hst Q K fun a' w' h'=>hK a' w' ?_
 unfold tmSt
 rw[show lset L 4 0=L 0 from rfl,show lset L 4 1=L 1 from rfl,show lset L 4 2=L 2 from rfl,show lset L 4 3=L 3 from rfl,show lset L 4 4=true from lset_at L 4,show lset L 4 5=L 5 from rfl,show lset L 4 6=L 6 from rfl,show lset L 4 7=L 7 from rfl,show lset L 4 8=L 8 from rfl,show lset L 4 9=L 9 from rfl,show lset L 4 10=L 10 from rfl]
 exact h'
theorem tm_step5(c s:Int)(f:Bool){L:Nat→Bool}{o:Oper}(ho:tmOps[5]?=some o){w0:World}{own:Nat→Prop}{σ0:Nat→Option Nat}{lo0 hi0:Nat}{a:Act}{w:World}(hst:StFits 181 w0 own σ0 lo0 hi0 (tmSt c s f L) a w)(hL:L 5=false)(Q:Exit→Act→World→Prop)(K:Act→World→Prop)
  (hK:∀a' w',StFits 181 w0 own σ0 lo0 hi0 (tmSt c s f (lset L 5)) a' w'→K a' w'):wpOp Tryz.prog tmOps Q 5 K a w:=by
 unfold tmSt at hst
 rw[hL]at hst
 have e:=tmOp5 c s f (L 0) (L 1) (L 2) (L 3) (L 4) (L 6) (L 7) (L 8) (L 9) (L 10)
 rw[ho,Option.bind_some]at e
 refine step_op .nil ho e (.inr rfl) hst Q K fun a' w' h'=>hK a' w' ?_
 unfold tmSt
 rw[show lset L 5 0=L 0 from rfl,show lset L 5 1=L 1 from rfl,show lset L 5 2=L 2 from rfl,show lset L 5 3=L 3 from rfl,show lset L 5 4=L 4 from rfl,show lset L 5 5=true from lset_at L 5,show lset L 5 6=L 6 from rfl,show lset L 5 7=L 7 from rfl,show lset L 5 8=L 8 from rfl,show lset L 5 9=L 9 from rfl,show lset L 5 10=L 10 from rfl]
 exact h'
theorem tm_step6(c s:Int)(f:Bool){L:Nat→Bool}{o:Oper}(ho:tmOps[6]?=some o){w0:World}{own:Nat→Prop}{σ0:Nat→Option Nat}{lo0 hi0:Nat}{a:Act}{w:World}(hst:StFits 181 w0 own σ0 lo0 hi0 (tmSt c s f L) a w)(hL:L 6=false)(Q:Exit→Act→World→Prop)(K:Act→World→Prop)
  (hK:∀a' w',StFits 181 w0 own σ0 lo0 hi0 (tmSt c s f (lset L 6)) a' w'→K a' w'):wpOp Tryz.prog tmOps Q 6 K a w:=by
 unfold tmSt at hst
 rw[hL]at hst
 have e:=tmOp6 c s f (L 0) (L 1) (L 2) (L 3) (L 4) (L 5) (L 7) (L 8) (L 9) (L 10)
 rw[ho,Option.bind_some]at e
 refine step_op .nil ho e (.inr rfl) hst Q K fun a' w' h'=>hK a' w' ?_
 unfold tmSt
 rw[show lset L 6 0=L 0 from rfl,show lset L 6 1=L 1 from rfl,show lset L 6 2=L 2 from rfl,show lset L 6 3=L 3 from rfl,show lset L 6 4=L 4 from rfl,show lset L 6 5=L 5 from rfl,show lset L 6 6=true from lset_at L 6,show lset L 6 7=L 7 from rfl,show lset L 6 8=L 8 from rfl,show lset L 6 9=L 9 from rfl,show lset L 6 10=L 10 from rfl]
 exact h'
theorem tm_step7(c s:Int)(f:Bool){L:Nat→Bool}{o:Oper}(ho:tmOps[7]?=some o){w0:World}{own:Nat→Prop}{σ0:Nat→Option Nat}{lo0 hi0:Nat}{a:Act}{w:World}(hst:StFits 181 w0 own σ0 lo0 hi0 (tmSt c s f L) a w)(hL:L 7=false)(d5:L 5=true)(d6:L 6=true)(Q:Exit→Act→World→Prop)(K:Act→World→Prop)
  (hK:∀a' w',StFits 181 w0 own σ0 lo0 hi0 (tmSt c s f (lset L 7)) a' w'→K a' w'):wpOp Tryz.prog tmOps Q 7 K a w:=by
 unfold tmSt at hst
 rw[hL,d5,d6]at hst
 have e:=tmOp7 c s f (L 0) (L 1) (L 2) (L 3) (L 4) (L 8) (L 9) (L 10)
 rw[ho,Option.bind_some]at e
 refine step_op .nil ho e (.inr rfl) hst Q K fun a' w' h'=>hK a' w' ?_
 unfold tmSt
 rw[show lset L 7 0=L 0 from rfl,show lset L 7 1=L 1 from rfl,show lset L 7 2=L 2 from rfl,show lset L 7 3=L 3 from rfl,show lset L 7 4=L 4 from rfl,show lset L 7 5=true from d5,show lset L 7 6=true from d6,show lset L 7 7=true from lset_at L 7,show lset L 7 8=L 8 from rfl,show lset L 7 9=L 9 from rfl,show lset L 7 10=L 10 from rfl]
 exact h'
theorem tm_step8(c s:Int)(f:Bool){L:Nat→Bool}{o:Oper}(ho:tmOps[8]?=some o){w0:World}{own:Nat→Prop}{σ0:Nat→Option Nat}{lo0 hi0:Nat}{a:Act}{w:World}(hst:StFits 181 w0 own σ0 lo0 hi0 (tmSt c s f L) a w)(hL:L 8=false)(d0:L 0=true)(d4:L 4=true)(d7:L 7=true)(Q:Exit→Act→World→Prop)(K:Act→World→Prop)
  (hK:∀a' w',StFits 181 w0 own σ0 lo0 hi0 (tmSt c s f (lset L 8)) a' w'→K a' w'):wpOp Tryz.prog tmOps Q 8 K a w:=by
 unfold tmSt at hst
 rw[hL,d0,d4,d7]at hst
 have e:=tmOp8 c s f (L 1) (L 2) (L 3) (L 5) (L 6) (L 9) (L 10)
 rw[ho,Option.bind_some]at e
 refine step_op .nil ho e (.inr rfl) hst Q K fun a' w' h'=>hK a' w' ?_
 unfold tmSt
 rw[show lset L 8 0=true from d0,show lset L 8 1=L 1 from rfl,show lset L 8 2=L 2 from rfl,show lset L 8 3=L 3 from rfl,show lset L 8 4=true from d4,show lset L 8 5=L 5 from rfl,show lset L 8 6=L 6 from rfl,show lset L 8 7=true from d7,show lset L 8 8=true from lset_at L 8,show lset L 8 9=L 9 from rfl,show lset L 8 10=L 10 from rfl]
 exact h'
theorem tm_step9(c s:Int)(f:Bool){L:Nat→Bool}{o:Oper}(ho:tmOps[9]?=some o){w0:World}{own:Nat→Prop}{σ0:Nat→Option Nat}{lo0 hi0:Nat}{a:Act}{w:World}(hst:StFits 181 w0 own σ0 lo0 hi0 (tmSt c s f L) a w)(hL:L 9=false)(d0:L 0=true)(d1:L 1=true)(d2:L 2=true)(d3:L 3=true)(d4:L 4=true)(d5:L 5=true)(d6:L 6=true)(d7:L 7=true)(d8:L 8=true)(Q:Exit→Act→World→Prop)(K:Act→World→Prop)
  (hK:∀a' w',StFits 181 w0 own σ0 lo0 hi0 (tmSt c s f (lset L 9)) a' w'→K a' w'):wpOp Tryz.prog tmOps Q 9 K a w:=by
 unfold tmSt at hst
 rw[hL,d0,d1,d2,d3,d4,d5,d6,d7,d8]at hst
 have e:=tmOp9 c s f (L 10)
 rw[ho,Option.bind_some]at e
 refine step_op .nil ho e (.inr rfl) hst Q K fun a' w' h'=>hK a' w' ?_
 unfold tmSt
 rw[show lset L 9 0=true from d0,show lset L 9 1=true from d1,show lset L 9 2=true from d2,show lset L 9 3=true from d3,show lset L 9 4=true from d4,show lset L 9 5=true from d5,show lset L 9 6=true from d6,show lset L 9 7=true from d7,show lset L 9 8=true from d8,show lset L 9 9=true from lset_at L 9,show lset L 9 10=L 10 from rfl]
 exact h'
theorem tm_step10(c s:Int)(f:Bool){L:Nat→Bool}{o:Oper}(ho:tmOps[10]?=some o){w0:World}{own:Nat→Prop}{σ0:Nat→Option Nat}{lo0 hi0:Nat}{a:Act}{w:World}(hst:StFits 181 w0 own σ0 lo0 hi0 (tmSt c s f L) a w)(hL:L 10=false)(d0:L 0=true)(d1:L 1=true)(d2:L 2=true)(d3:L 3=true)(d4:L 4=true)(d5:L 5=true)(d6:L 6=true)(d7:L 7=true)(d8:L 8=true)(d9:L 9=true)(Q:Exit→Act→World→Prop)(K:Act→World→Prop)
  (hK:∀a' w',StFits 181 w0 own σ0 lo0 hi0 (tmSt c s f (lset L 10)) a' w'→K a' w'):wpOp Tryz.prog tmOps Q 10 K a w:=by
 unfold tmSt at hst
 rw[hL,d0,d1,d2,d3,d4,d5,d6,d7,d8,d9]at hst
 have e:=tmOp10 c s f
 rw[ho,Option.bind_some]at e
 refine step_op .nil ho e (.inr rfl) hst Q K fun a' w' h'=>hK a' w' ?_
 unfold tmSt
 rw[show lset L 10 0=true from d0,show lset L 10 1=true from d1,show lset L 10 2=true from d2,show lset L 10 3=true from d3,show lset L 10 4=true from d4,show lset L 10 5=true from d5,show lset L 10 6=true from d6,show lset L 10 7=true from d7,show lset L 10 8=true from d8,show lset L 10 9=true from d9,show lset L 10 10=true from lset_at L 10]
 exact h'
theorem tm_region(c s:Int)(f:Bool):RunsTo Tryz.prog 181 tm1 (tmS c s f (tmMap false false c s) false false false false false false false false false) .normal (tmS c s f (tmMap true true c s) true true true true true true true true true):=by
 rw[tm1_is]
 intro w0 own σ0 lo0 hi0 a w hst Q hQ
 refine wp_region_any tm_mixed ?_
 rw[tmOps_size]
 have hz:∀i,i<11→(Array.replicate 11 false).getD i true=false:=fun i hi=>by simp[hi]
 refine any_inv tmOps_size tm_edge (fun L a w=>StFits 181 w0 own σ0 lo0 hi0 (tmSt c s f L) a w∧(L 0=false→L 3=false∧L 8=false)) Q ?_ ?_ 11 _ a _ (by simp) (by simp) ⟨?_,fun _=>⟨hz 3 (by omega),hz 8 (by omega)⟩⟩
 ·intro L j o a w hL ho hpre hinv K hK
  have hi:j<11:=by rw[← tmOps_size];exact (Array.getElem?_eq_some_iff.1 ho).1
  have h0:=tm_bind ho
  obtain ⟨hst,hno⟩:=hinv
  match j,hi with
  | 0,_ =>
   simp only[List.getElem?_cons_zero,List.getElem?_cons_succ,Option.some.injEq]at h0
   rw[← h0]at hpre
   refine tm_step0 c s f ho hst hL (hno hL).1 (hno hL).2 Q K fun a' w' h'=>hK a' w' ⟨h',fun h=>?_⟩
   rw[lset_at]at h;cases h
  | 1,_ =>
   simp only[List.getElem?_cons_zero,List.getElem?_cons_succ,Option.some.injEq]at h0
   rw[← h0]at hpre
   refine tm_step1 c s f ho hst hL Q K fun a' w' h'=>hK a' w' ⟨h',fun h=>?_⟩
   exact hno h
  | 2,_ =>
   simp only[List.getElem?_cons_zero,List.getElem?_cons_succ,Option.some.injEq]at h0
   rw[← h0]at hpre
   refine tm_step2 c s f ho hst hL Q K fun a' w' h'=>hK a' w' ⟨h',fun h=>?_⟩
   exact hno h
  | 3,_ =>
   simp only[List.getElem?_cons_zero,List.getElem?_cons_succ,Option.some.injEq]at h0
   rw[← h0]at hpre
   have d0:L 0=true:=hpre 0 (by decide)
   have d1:L 1=true:=hpre 1 (by decide)
   have d2:L 2=true:=hpre 2 (by decide)
   refine tm_step3 c s f ho hst hL d0 d1 d2 Q K fun a' w' h'=>hK a' w' ⟨h',fun h=>?_⟩
   rw[show lset L 3 0=true from d0]at h;cases h
  | 4,_ =>
   simp only[List.getElem?_cons_zero,List.getElem?_cons_succ,Option.some.injEq]at h0
   rw[← h0]at hpre
   refine tm_step4 c s f ho hst hL Q K fun a' w' h'=>hK a' w' ⟨h',fun h=>?_⟩
   exact hno h
  | 5,_ =>
   simp only[List.getElem?_cons_zero,List.getElem?_cons_succ,Option.some.injEq]at h0
   rw[← h0]at hpre
   refine tm_step5 c s f ho hst hL Q K fun a' w' h'=>hK a' w' ⟨h',fun h=>?_⟩
   exact hno h
  | 6,_ =>
   simp only[List.getElem?_cons_zero,List.getElem?_cons_succ,Option.some.injEq]at h0
   rw[← h0]at hpre
   refine tm_step6 c s f ho hst hL Q K fun a' w' h'=>hK a' w' ⟨h',fun h=>?_⟩
   exact hno h
  | 7,_ =>
   simp only[List.getElem?_cons_zero,List.getElem?_cons_succ,Option.some.injEq]at h0
   rw[← h0]at hpre
   have d5:L 5=true:=hpre 5 (by decide)
   have d6:L 6=true:=hpre 6 (by decide)
   refine tm_step7 c s f ho hst hL d5 d6 Q K fun a' w' h'=>hK a' w' ⟨h',fun h=>?_⟩
   exact hno h
  | 8,_ =>
   simp only[List.getElem?_cons_zero,List.getElem?_cons_succ,Option.some.injEq]at h0
   rw[← h0]at hpre
   have d0:L 0=true:=hpre 0 (by decide)
   have d4:L 4=true:=hpre 4 (by decide)
   have d7:L 7=true:=hpre 7 (by decide)
   refine tm_step8 c s f ho hst hL d0 d4 d7 Q K fun a' w' h'=>hK a' w' ⟨h',fun h=>?_⟩
   rw[show lset L 8 0=true from d0]at h;cases h
  | 9,_ =>
   simp only[List.getElem?_cons_zero,List.getElem?_cons_succ,Option.some.injEq]at h0
   rw[← h0]at hpre
   have d0:L 0=true:=hpre 0 (by decide)
   have d1:L 1=true:=hpre 1 (by decide)
   have d2:L 2=true:=hpre 2 (by decide)
   have d3:L 3=true:=hpre 3 (by decide)
   have d4:L 4=true:=hpre 4 (by decide)
   have d5:L 5=true:=hpre 5 (by decide)
   have d6:L 6=true:=hpre 6 (by decide)
   have d7:L 7=true:=hpre 7 (by decide)
   have d8:L 8=true:=hpre 8 (by decide)
   refine tm_step9 c s f ho hst hL d0 d1 d2 d3 d4 d5 d6 d7 d8 Q K fun a' w' h'=>hK a' w' ⟨h',fun h=>?_⟩
   rw[show lset L 9 0=true from d0]at h;cases h
  | 10,_ =>
   simp only[List.getElem?_cons_zero,List.getElem?_cons_succ,Option.some.injEq]at h0
   rw[← h0]at hpre
   have d0:L 0=true:=hpre 0 (by decide)
   have d1:L 1=true:=hpre 1 (by decide)
   have d2:L 2=true:=hpre 2 (by decide)
   have d3:L 3=true:=hpre 3 (by decide)
   have d4:L 4=true:=hpre 4 (by decide)
   have d5:L 5=true:=hpre 5 (by decide)
   have d6:L 6=true:=hpre 6 (by decide)
   have d7:L 7=true:=hpre 7 (by decide)
   have d8:L 8=true:=hpre 8 (by decide)
   have d9:L 9=true:=hpre 9 (by decide)
   refine tm_step10 c s f ho hst hL d0 d1 d2 d3 d4 d5 d6 d7 d8 d9 Q K fun a' w' h'=>hK a' w' ⟨h',fun h=>?_⟩
   rw[show lset L 10 0=true from d0]at h;cases h
 ·intro L a w hinv hall
  refine hQ a w ?_
  have h:=hinv.1
  unfold tmSt at h
  rw[hall 0 (by omega),hall 1 (by omega),hall 2 (by omega),hall 3 (by omega),hall 4 (by omega),hall 5 (by omega),hall 6 (by omega),hall 7 (by omega),hall 8 (by omega),hall 9 (by omega),hall 10 (by omega)]at h
  exact h
 ·have e:tmSt c s f (fun i=>(Array.replicate 11 false).getD i true)=tmS c s f (tmMap false false c s) false false false false false false false false false:=by
   unfold tmSt
   dsimp only
   rw[hz 0 (by omega),hz 1 (by omega),hz 2 (by omega),hz 3 (by omega),hz 4 (by omega),hz 5 (by omega),hz 6 (by omega),hz 7 (by omega),hz 8 (by omega),hz 9 (by omega),hz 10 (by omega)]
  rw[e]
  obtain ⟨σ,u,hf,h1,h2,h3,h4,h5,h6⟩:=hst
  exact ⟨σ,u,hf.drew,h1,h2,h3,h4,h5,h6⟩
end Go.Ab
