/- A part of the proofs: lemmas, no statement of their own; no condition. -/
import Derived.Test.YtoocjipllmkjcaaGreatFjG
import Derived.Test.YtoocjipllmkjcaaGreatFjH
import Derived.Test.YtoocjipllmkjcaaGreatFjI
import Derived.Test.YtoocjipllmkjcaaGreatFjJ
import Derived.Test.YtoocjipllmkjcaaGreatGBeA
namespace Go.Ab
open Go Go.Proofs
structure GCB where
 g:Gs
 chi:Int
 ok:Bool
instance:Cod GCB where
 enc x:=.tuple #[Cod.enc x.g,.int .i64 x.chi,.bool x.ok]
 dec v:=match v with
  | .tuple ⟨[g,.int .i64 c,.bool o]⟩=>match Cod.dec g with | some x=>some ⟨x,c,o⟩ | none=>none
  | _=>none
 law v x h:=by
  split at h
  ·split at h
   ·rename_i h1
    cases h
    rw[Cod.law _ _ h1]
   ·cases h
  ·cases h
def meFA(F:GOps)(i:Nat)(z:(P2×P2)×Bool):(P2×P2)×Bool:=match i with | 0=>meA0 F z.1.1 z.1.2 z.2 | _=>meA1 F z.1.1 z.1.2 z.2
def meFB(F:GOps)(q:V4)(sky:P2)(x:X13)(k:Nat)(z:Mx×Bool):Mx×Bool:=(setX z.1 k (meB F q sky (x.row k) z.2).1,(meB F q sky (x.row k) z.2).2)
def meFD(F:GOps)(m:R6)(i:Nat)(z:(Nat→Int)×Bool):(Nat→Int)×Bool:=(setR z.1 i (F.o.sub z.2 (z.1 i) (m.at i)).1,(F.o.sub z.2 (z.1 i) (m.at i)).2)
def meFE(F:GOps)(y u:R6)(i:Nat)(z:Int×Bool):Int×Bool:=meE F z.1 (y.at i) (u.at i) z.2
def meFF(F:GOps)(l c:M6)(i:Nat)(z:Mx×Bool):Mx×Bool:=(setX z.1 i (F.so z.2 (l,c.row i,6,())).1,(F.so z.2 (l,c.row i,6,())).2)
def meFJ(F:GOps)(P k c:Mx)(i j:Nat)(z:Mx×Bool):Mx×Bool:=(setM z.1 i j (meT F P k c i j z.2).1,(meT F P k c i j z.2).2)
def meFG(F:GOps)(P k c:Mx)(i:Nat)(z:Mx×Bool):Mx×Bool:=A0k (meFJ F P k c i) 0 6 z
def meFH(F:GOps)(T:Mx)(i:Nat)(z:Mx×Bool):Mx×Bool:=meH F.o T i 0 6 z
section
variable {F:GOps} (hG:GamOk Tryz.prog (eE F).gam) (b:Bool) (g:Gs) (sky body:P2) (x:X13) (Z:Mx) (m y u:R6) (s c l:M6) (Y:Nat→Int) (chi:Int) (k T p:Mx)
include hG
theorem J3r(z:(P2×P2)×Bool):A0b Tryz.prog 248 wA (wSA 0 g z.1.1 z.1.2 z.2) .normal (wSA 1 g (meFA F 0 z).1.1 (meFA F 0 z).1.2 (meFA F 0 z).2):=A0c hG (U5j (F:=F) (b:=z.2) (g:=g) (sky:=z.1.1) (body:=z.1.2)) (H2w ..) (C3p ..) rfl
theorem J3t(z:(P2×P2)×Bool):A0b Tryz.prog 248 wA (wSA 1 g z.1.1 z.1.2 z.2) .normal (wSA 2 g (meFA F 1 z).1.1 (meFA F 1 z).1.2 (meFA F 1 z).2):=A0c hG (U5k (F:=F) (b:=z.2) (g:=g) (sky:=z.1.1) (body:=z.1.2)) (H2w ..) (C3p ..) rfl
theorem J3u(z:(P2×P2)×Bool):A0b Tryz.prog 248 wA (wSA 2 g z.1.1 z.1.2 z.2) (.exit 0) (wS0 g z.1.1 z.1.2 z.2):=A0c hG (U5m (F:=F) (b:=z.2) (g:=g) (sky:=z.1.1) (body:=z.1.2)) (H2w ..) (L4q ..) rfl
theorem meLA:A0b Tryz.prog 248 (.block 0 (.loop wA)) (wSA 0 g ((sky,body),b).1.1 ((sky,body),b).1.2 ((sky,body),b).2) .normal (wS0 g (A0k (meFA F) 0 2 ((sky,body),b)).1.1 (A0k (meFA F) 0 2 ((sky,body),b)).1.2 (A0k (meFA F) 0 2 ((sky,body),b)).2) :=
 A0b.rounds (P:=Tryz.prog) (N:=248) (c:=wA) (id:=0) 2 (fun i z=>wSA i g z.1.1 z.1.2 z.2) (fun z=>wS0 g z.1.1 z.1.2 z.2) (meFA F)
  (fun i z=>V3z (p:=fun i=>A0b Tryz.prog 248 wA (wSA i g z.1.1 z.1.2 z.2) .normal (wSA (i+1:Nat) g (meFA F i z).1.1 (meFA F i z).1.2 (meFA F i z).2))
   (J3r (hG:=hG) (g:=g)   (z:=z))
   (J3t (hG:=hG) (g:=g)   (z:=z))
   i)
  (fun z=>J3u (hG:=hG) (g:=g)   (z:=z)) ((sky,body),b)
theorem J3v(z:Mx×Bool):A0b Tryz.prog 248 wB (wSB 0 g sky body x z.1 z.2) .normal (wSB 1 g sky body x (meFB F g.q sky x 0 z).1 (meFB F g.q sky x 0 z).2):=A0c hG (U5n (F:=F) (b:=z.2) (g:=g) (sky:=sky) (body:=body) (x:=x) (Z:=z.1)) (L0m ..) (M0u ..) rfl
theorem J3w(z:Mx×Bool):A0b Tryz.prog 248 wB (wSB 1 g sky body x z.1 z.2) .normal (wSB 2 g sky body x (meFB F g.q sky x 1 z).1 (meFB F g.q sky x 1 z).2):=A0c hG (U5p (F:=F) (b:=z.2) (g:=g) (sky:=sky) (body:=body) (x:=x) (Z:=z.1)) (L0m ..) (M0u ..) rfl
theorem J3x(z:Mx×Bool):A0b Tryz.prog 248 wB (wSB 2 g sky body x z.1 z.2) .normal (wSB 3 g sky body x (meFB F g.q sky x 2 z).1 (meFB F g.q sky x 2 z).2):=A0c hG (U5q (F:=F) (b:=z.2) (g:=g) (sky:=sky) (body:=body) (x:=x) (Z:=z.1)) (L0m ..) (M0u ..) rfl
theorem J3y(z:Mx×Bool):A0b Tryz.prog 248 wB (wSB 3 g sky body x z.1 z.2) .normal (wSB 4 g sky body x (meFB F g.q sky x 3 z).1 (meFB F g.q sky x 3 z).2):=A0c hG (U5r (F:=F) (b:=z.2) (g:=g) (sky:=sky) (body:=body) (x:=x) (Z:=z.1)) (L0m ..) (M0u ..) rfl
theorem J3z(z:Mx×Bool):A0b Tryz.prog 248 wB (wSB 4 g sky body x z.1 z.2) .normal (wSB 5 g sky body x (meFB F g.q sky x 4 z).1 (meFB F g.q sky x 4 z).2):=A0c hG (U5t (F:=F) (b:=z.2) (g:=g) (sky:=sky) (body:=body) (x:=x) (Z:=z.1)) (L0m ..) (M0u ..) rfl
theorem K3a(z:Mx×Bool):A0b Tryz.prog 248 wB (wSB 5 g sky body x z.1 z.2) .normal (wSB 6 g sky body x (meFB F g.q sky x 5 z).1 (meFB F g.q sky x 5 z).2):=A0c hG (U5u (F:=F) (b:=z.2) (g:=g) (sky:=sky) (body:=body) (x:=x) (Z:=z.1)) (L0m ..) (M0u ..) rfl
theorem K3b(z:Mx×Bool):A0b Tryz.prog 248 wB (wSB 6 g sky body x z.1 z.2) .normal (wSB 7 g sky body x (meFB F g.q sky x 6 z).1 (meFB F g.q sky x 6 z).2):=A0c hG (U5v (F:=F) (b:=z.2) (g:=g) (sky:=sky) (body:=body) (x:=x) (Z:=z.1)) (L0m ..) (M0u ..) rfl
theorem K3c(z:Mx×Bool):A0b Tryz.prog 248 wB (wSB 7 g sky body x z.1 z.2) .normal (wSB 8 g sky body x (meFB F g.q sky x 7 z).1 (meFB F g.q sky x 7 z).2):=A0c hG (U5w (F:=F) (b:=z.2) (g:=g) (sky:=sky) (body:=body) (x:=x) (Z:=z.1)) (L0m ..) (M0u ..) rfl
theorem K3d(z:Mx×Bool):A0b Tryz.prog 248 wB (wSB 8 g sky body x z.1 z.2) .normal (wSB 9 g sky body x (meFB F g.q sky x 8 z).1 (meFB F g.q sky x 8 z).2):=A0c hG (U5x (F:=F) (b:=z.2) (g:=g) (sky:=sky) (body:=body) (x:=x) (Z:=z.1)) (L0m ..) (M0u ..) rfl
theorem K3e(z:Mx×Bool):A0b Tryz.prog 248 wB (wSB 9 g sky body x z.1 z.2) .normal (wSB 10 g sky body x (meFB F g.q sky x 9 z).1 (meFB F g.q sky x 9 z).2):=A0c hG (U5y (F:=F) (b:=z.2) (g:=g) (sky:=sky) (body:=body) (x:=x) (Z:=z.1)) (L0m ..) (M0u ..) rfl
theorem W2r(z:Mx×Bool):A0b Tryz.prog 248 wB (wSB 10 g sky body x z.1 z.2) .normal (wSB 11 g sky body x (meFB F g.q sky x 10 z).1 (meFB F g.q sky x 10 z).2):=A0c hG (T4h (F:=F) (b:=z.2) (g:=g) (sky:=sky) (body:=body) (x:=x) (Z:=z.1)) (L0m ..) (M0u ..) rfl
theorem W2t(z:Mx×Bool):A0b Tryz.prog 248 wB (wSB 11 g sky body x z.1 z.2) .normal (wSB 12 g sky body x (meFB F g.q sky x 11 z).1 (meFB F g.q sky x 11 z).2):=A0c hG (T4j (F:=F) (b:=z.2) (g:=g) (sky:=sky) (body:=body) (x:=x) (Z:=z.1)) (L0m ..) (M0u ..) rfl
theorem W2u(z:Mx×Bool):A0b Tryz.prog 248 wB (wSB 12 g sky body x z.1 z.2) .normal (wSB 13 g sky body x (meFB F g.q sky x 12 z).1 (meFB F g.q sky x 12 z).2):=A0c hG (T4k (F:=F) (b:=z.2) (g:=g) (sky:=sky) (body:=body) (x:=x) (Z:=z.1)) (L0m ..) (M0u ..) rfl
theorem W2v(z:Mx×Bool):A0b Tryz.prog 248 wB (wSB 13 g sky body x z.1 z.2) (.exit 2) (wS7 g sky body x z.1 z.2):=A0c hG (T4m (F:=F) (b:=z.2) (g:=g) (sky:=sky) (body:=body) (x:=x) (Z:=z.1)) (L0m ..) (L4r ..) rfl
theorem meLB:A0b Tryz.prog 248 (.block 2 (.loop wB)) (wSB 0 g sky body x (Z,b).1 (Z,b).2) .normal (wS7 g sky body x (A0k (meFB F g.q sky x) 0 13 (Z,b)).1 (A0k (meFB F g.q sky x) 0 13 (Z,b)).2) :=
 A0b.rounds (P:=Tryz.prog) (N:=248) (c:=wB) (id:=2) 13 (fun i z=>wSB i g sky body x z.1 z.2) (fun z=>wS7 g sky body x z.1 z.2) (meFB F g.q sky x)
  (fun i z=>E3d (p:=fun i=>A0b Tryz.prog 248 wB (wSB i g sky body x z.1 z.2) .normal (wSB (i+1:Nat) g sky body x (meFB F g.q sky x i z).1 (meFB F g.q sky x i z).2))
   (J3v (hG:=hG) (g:=g) (sky:=sky) (body:=body) (x:=x)  (z:=z))
   (J3w (hG:=hG) (g:=g) (sky:=sky) (body:=body) (x:=x)  (z:=z))
   (J3x (hG:=hG) (g:=g) (sky:=sky) (body:=body) (x:=x)  (z:=z))
   (J3y (hG:=hG) (g:=g) (sky:=sky) (body:=body) (x:=x)  (z:=z))
   (J3z (hG:=hG) (g:=g) (sky:=sky) (body:=body) (x:=x)  (z:=z))
   (K3a (hG:=hG) (g:=g) (sky:=sky) (body:=body) (x:=x)  (z:=z))
   (K3b (hG:=hG) (g:=g) (sky:=sky) (body:=body) (x:=x)  (z:=z))
   (K3c (hG:=hG) (g:=g) (sky:=sky) (body:=body) (x:=x)  (z:=z))
   (K3d (hG:=hG) (g:=g) (sky:=sky) (body:=body) (x:=x)  (z:=z))
   (K3e (hG:=hG) (g:=g) (sky:=sky) (body:=body) (x:=x)  (z:=z))
   (W2r (hG:=hG) (g:=g) (sky:=sky) (body:=body) (x:=x)  (z:=z))
   (W2t (hG:=hG) (g:=g) (sky:=sky) (body:=body) (x:=x)  (z:=z))
   (W2u (hG:=hG) (g:=g) (sky:=sky) (body:=body) (x:=x)  (z:=z))
   i)
  (fun z=>W2v (hG:=hG) (g:=g) (sky:=sky) (body:=body) (x:=x)  (z:=z)) (Z,b)
theorem K3g(z:(Nat→Int)×Bool):A0b Tryz.prog 248 wD (wSD 0 g m s c z.1 z.2) .normal (wSD 1 g m s c (meFD F m 0 z).1 (meFD F m 0 z).2):=A0c hG (U5z (F:=F) (b:=z.2) (g:=g) (m:=m) (s:=s) (c:=c) (Y:=z.1)) (A1t ..) (G1m ..) rfl
theorem K3h(z:(Nat→Int)×Bool):A0b Tryz.prog 248 wD (wSD 1 g m s c z.1 z.2) .normal (wSD 2 g m s c (meFD F m 1 z).1 (meFD F m 1 z).2):=A0c hG (V5a (F:=F) (b:=z.2) (g:=g) (m:=m) (s:=s) (c:=c) (Y:=z.1)) (A1t ..) (G1m ..) rfl
theorem K3j(z:(Nat→Int)×Bool):A0b Tryz.prog 248 wD (wSD 2 g m s c z.1 z.2) .normal (wSD 3 g m s c (meFD F m 2 z).1 (meFD F m 2 z).2):=A0c hG (V5b (F:=F) (b:=z.2) (g:=g) (m:=m) (s:=s) (c:=c) (Y:=z.1)) (A1t ..) (G1m ..) rfl
theorem K3k(z:(Nat→Int)×Bool):A0b Tryz.prog 248 wD (wSD 3 g m s c z.1 z.2) .normal (wSD 4 g m s c (meFD F m 3 z).1 (meFD F m 3 z).2):=A0c hG (V5c (F:=F) (b:=z.2) (g:=g) (m:=m) (s:=s) (c:=c) (Y:=z.1)) (A1t ..) (G1m ..) rfl
theorem K3m(z:(Nat→Int)×Bool):A0b Tryz.prog 248 wD (wSD 4 g m s c z.1 z.2) .normal (wSD 5 g m s c (meFD F m 4 z).1 (meFD F m 4 z).2):=A0c hG (V5d (F:=F) (b:=z.2) (g:=g) (m:=m) (s:=s) (c:=c) (Y:=z.1)) (A1t ..) (G1m ..) rfl
theorem K3n(z:(Nat→Int)×Bool):A0b Tryz.prog 248 wD (wSD 5 g m s c z.1 z.2) .normal (wSD 6 g m s c (meFD F m 5 z).1 (meFD F m 5 z).2):=A0c hG (V5e (F:=F) (b:=z.2) (g:=g) (m:=m) (s:=s) (c:=c) (Y:=z.1)) (A1t ..) (G1m ..) rfl
theorem K3p(z:(Nat→Int)×Bool):A0b Tryz.prog 248 wD (wSD 6 g m s c z.1 z.2) (.exit 4) (wS18 g m s c z.1 z.2):=A0c hG (V5g (F:=F) (b:=z.2) (g:=g) (m:=m) (s:=s) (c:=c) (Y:=z.1)) (A1t ..) (N3w ..) rfl
theorem meLD:A0b Tryz.prog 248 (.block 4 (.loop wD)) (wSD 0 g m s c (Y,b).1 (Y,b).2) .normal (wS18 g m s c (A0k (meFD F m) 0 6 (Y,b)).1 (A0k (meFD F m) 0 6 (Y,b)).2) :=
 A0b.rounds (P:=Tryz.prog) (N:=248) (c:=wD) (id:=4) 6 (fun i z=>wSD i g m s c z.1 z.2) (fun z=>wS18 g m s c z.1 z.2) (meFD F m)
  (fun i z=>D0w (p:=fun i=>A0b Tryz.prog 248 wD (wSD i g m s c z.1 z.2) .normal (wSD (i+1:Nat) g m s c (meFD F m i z).1 (meFD F m i z).2))
   (K3g (hG:=hG) (g:=g) (m:=m) (s:=s) (c:=c)  (z:=z))
   (K3h (hG:=hG) (g:=g) (m:=m) (s:=s) (c:=c)  (z:=z))
   (K3j (hG:=hG) (g:=g) (m:=m) (s:=s) (c:=c)  (z:=z))
   (K3k (hG:=hG) (g:=g) (m:=m) (s:=s) (c:=c)  (z:=z))
   (K3m (hG:=hG) (g:=g) (m:=m) (s:=s) (c:=c)  (z:=z))
   (K3n (hG:=hG) (g:=g) (m:=m) (s:=s) (c:=c)  (z:=z))
   i)
  (fun z=>K3p (hG:=hG) (g:=g) (m:=m) (s:=s) (c:=c)  (z:=z)) (Y,b)
theorem K3q(z:Int×Bool):A0b Tryz.prog 248 wE (wSE 0 g c y l u z.1 z.2) .normal (wSE 1 g c y l u (meFE F y u 0 z).1 (meFE F y u 0 z).2):=A0c hG (V5h (F:=F) (b:=z.2) (g:=g) (y:=y) (u:=u) (c:=c) (l:=l) (chi:=z.1)) (A1u ..) (G1n ..) rfl
theorem K3r(z:Int×Bool):A0b Tryz.prog 248 wE (wSE 1 g c y l u z.1 z.2) .normal (wSE 2 g c y l u (meFE F y u 1 z).1 (meFE F y u 1 z).2):=A0c hG (V5j (F:=F) (b:=z.2) (g:=g) (y:=y) (u:=u) (c:=c) (l:=l) (chi:=z.1)) (A1u ..) (G1n ..) rfl
theorem K3t(z:Int×Bool):A0b Tryz.prog 248 wE (wSE 2 g c y l u z.1 z.2) .normal (wSE 3 g c y l u (meFE F y u 2 z).1 (meFE F y u 2 z).2):=A0c hG (V5k (F:=F) (b:=z.2) (g:=g) (y:=y) (u:=u) (c:=c) (l:=l) (chi:=z.1)) (A1u ..) (G1n ..) rfl
theorem K3u(z:Int×Bool):A0b Tryz.prog 248 wE (wSE 3 g c y l u z.1 z.2) .normal (wSE 4 g c y l u (meFE F y u 3 z).1 (meFE F y u 3 z).2):=A0c hG (V5m (F:=F) (b:=z.2) (g:=g) (y:=y) (u:=u) (c:=c) (l:=l) (chi:=z.1)) (A1u ..) (G1n ..) rfl
theorem K3v(z:Int×Bool):A0b Tryz.prog 248 wE (wSE 4 g c y l u z.1 z.2) .normal (wSE 5 g c y l u (meFE F y u 4 z).1 (meFE F y u 4 z).2):=A0c hG (V5n (F:=F) (b:=z.2) (g:=g) (y:=y) (u:=u) (c:=c) (l:=l) (chi:=z.1)) (A1u ..) (G1n ..) rfl
theorem K3w(z:Int×Bool):A0b Tryz.prog 248 wE (wSE 5 g c y l u z.1 z.2) .normal (wSE 6 g c y l u (meFE F y u 5 z).1 (meFE F y u 5 z).2):=A0c hG (V5p (F:=F) (b:=z.2) (g:=g) (y:=y) (u:=u) (c:=c) (l:=l) (chi:=z.1)) (A1u ..) (G1n ..) rfl
theorem K3x(z:Int×Bool):A0b Tryz.prog 248 wE (wSE 6 g c y l u z.1 z.2) (.exit 6) (wS25 g c y l z.1 z.2):=A0c hG (V5q (F:=F) (b:=z.2) (g:=g) (y:=y) (u:=u) (c:=c) (l:=l) (chi:=z.1)) (A1u ..) (N3x ..) rfl
theorem meLE:A0b Tryz.prog 248 (.block 6 (.loop wE)) (wSE 0 g c y l u (chi,b).1 (chi,b).2) .normal (wS25 g c y l (A0k (meFE F y u) 0 6 (chi,b)).1 (A0k (meFE F y u) 0 6 (chi,b)).2) :=
 A0b.rounds (P:=Tryz.prog) (N:=248) (c:=wE) (id:=6) 6 (fun i z=>wSE i g c y l u z.1 z.2) (fun z=>wS25 g c y l z.1 z.2) (meFE F y u)
  (fun i z=>D0w (p:=fun i=>A0b Tryz.prog 248 wE (wSE i g c y l u z.1 z.2) .normal (wSE (i+1:Nat) g c y l u (meFE F y u i z).1 (meFE F y u i z).2))
   (K3q (hG:=hG) (g:=g) (y:=y) (u:=u) (c:=c) (l:=l)  (z:=z))
   (K3r (hG:=hG) (g:=g) (y:=y) (u:=u) (c:=c) (l:=l)  (z:=z))
   (K3t (hG:=hG) (g:=g) (y:=y) (u:=u) (c:=c) (l:=l)  (z:=z))
   (K3u (hG:=hG) (g:=g) (y:=y) (u:=u) (c:=c) (l:=l)  (z:=z))
   (K3v (hG:=hG) (g:=g) (y:=y) (u:=u) (c:=c) (l:=l)  (z:=z))
   (K3w (hG:=hG) (g:=g) (y:=y) (u:=u) (c:=c) (l:=l)  (z:=z))
   i)
  (fun z=>K3x (hG:=hG) (g:=g) (y:=y) (u:=u) (c:=c) (l:=l)  (z:=z)) (chi,b)
theorem K3y(z:Mx×Bool):A0b Tryz.prog 248 wF (wSF 0 g c y l chi z.1 T p z.2) .normal (wSF 1 g c y l chi (meFF F l c 0 z).1 T p (meFF F l c 0 z).2):=A0c hG (V5r (F:=F) (b:=z.2) (g:=g) (y:=y) (c:=c) (l:=l) (chi:=chi) (k:=z.1) (T:=T) (p:=p)) (A1v ..) (G1p ..) rfl
theorem K3z(z:Mx×Bool):A0b Tryz.prog 248 wF (wSF 1 g c y l chi z.1 T p z.2) .normal (wSF 2 g c y l chi (meFF F l c 1 z).1 T p (meFF F l c 1 z).2):=A0c hG (V5t (F:=F) (b:=z.2) (g:=g) (y:=y) (c:=c) (l:=l) (chi:=chi) (k:=z.1) (T:=T) (p:=p)) (A1v ..) (G1p ..) rfl
theorem L3a(z:Mx×Bool):A0b Tryz.prog 248 wF (wSF 2 g c y l chi z.1 T p z.2) .normal (wSF 3 g c y l chi (meFF F l c 2 z).1 T p (meFF F l c 2 z).2):=A0c hG (V5u (F:=F) (b:=z.2) (g:=g) (y:=y) (c:=c) (l:=l) (chi:=chi) (k:=z.1) (T:=T) (p:=p)) (A1v ..) (G1p ..) rfl
theorem L3b(z:Mx×Bool):A0b Tryz.prog 248 wF (wSF 3 g c y l chi z.1 T p z.2) .normal (wSF 4 g c y l chi (meFF F l c 3 z).1 T p (meFF F l c 3 z).2):=A0c hG (V5v (F:=F) (b:=z.2) (g:=g) (y:=y) (c:=c) (l:=l) (chi:=chi) (k:=z.1) (T:=T) (p:=p)) (A1v ..) (G1p ..) rfl
theorem L3c(z:Mx×Bool):A0b Tryz.prog 248 wF (wSF 4 g c y l chi z.1 T p z.2) .normal (wSF 5 g c y l chi (meFF F l c 4 z).1 T p (meFF F l c 4 z).2):=A0c hG (V5w (F:=F) (b:=z.2) (g:=g) (y:=y) (c:=c) (l:=l) (chi:=chi) (k:=z.1) (T:=T) (p:=p)) (A1v ..) (G1p ..) rfl
theorem L3d(z:Mx×Bool):A0b Tryz.prog 248 wF (wSF 5 g c y l chi z.1 T p z.2) .normal (wSF 6 g c y l chi (meFF F l c 5 z).1 T p (meFF F l c 5 z).2):=A0c hG (V5x (F:=F) (b:=z.2) (g:=g) (y:=y) (c:=c) (l:=l) (chi:=chi) (k:=z.1) (T:=T) (p:=p)) (A1v ..) (G1p ..) rfl
theorem L3e(z:Mx×Bool):A0b Tryz.prog 248 wF (wSF 6 g c y l chi z.1 T p z.2) (.exit 8) (wS35 g c y l chi z.1 T p z.2):=A0c hG (V5y (F:=F) (b:=z.2) (g:=g) (y:=y) (c:=c) (l:=l) (chi:=chi) (k:=z.1) (T:=T) (p:=p)) (A1v ..) (U1q ..) rfl
theorem meLF:A0b Tryz.prog 248 (.block 8 (.loop wF)) (wSF 0 g c y l chi (k,b).1 T p (k,b).2) .normal (wS35 g c y l chi (A0k (meFF F l c) 0 6 (k,b)).1 T p (A0k (meFF F l c) 0 6 (k,b)).2) :=
 A0b.rounds (P:=Tryz.prog) (N:=248) (c:=wF) (id:=8) 6 (fun i z=>wSF i g c y l chi z.1 T p z.2) (fun z=>wS35 g c y l chi z.1 T p z.2) (meFF F l c)
  (fun i z=>D0w (p:=fun i=>A0b Tryz.prog 248 wF (wSF i g c y l chi z.1 T p z.2) .normal (wSF (i+1:Nat) g c y l chi (meFF F l c i z).1 T p (meFF F l c i z).2))
   (K3y (hG:=hG) (g:=g) (y:=y) (c:=c) (l:=l) (chi:=chi)  (T:=T) (p:=p) (z:=z))
   (K3z (hG:=hG) (g:=g) (y:=y) (c:=c) (l:=l) (chi:=chi)  (T:=T) (p:=p) (z:=z))
   (L3a (hG:=hG) (g:=g) (y:=y) (c:=c) (l:=l) (chi:=chi)  (T:=T) (p:=p) (z:=z))
   (L3b (hG:=hG) (g:=g) (y:=y) (c:=c) (l:=l) (chi:=chi)  (T:=T) (p:=p) (z:=z))
   (L3c (hG:=hG) (g:=g) (y:=y) (c:=c) (l:=l) (chi:=chi)  (T:=T) (p:=p) (z:=z))
   (L3d (hG:=hG) (g:=g) (y:=y) (c:=c) (l:=l) (chi:=chi)  (T:=T) (p:=p) (z:=z))
   i)
  (fun z=>L3e (hG:=hG) (g:=g) (y:=y) (c:=c) (l:=l) (chi:=chi)  (T:=T) (p:=p) (z:=z)) (k,b)
theorem L3g(z:Mx×Bool):A0b Tryz.prog 248 wH (wSH 0 g c y l chi k T z.1 z.2) .normal (wSH 1 g c y l chi k T (meFH F T 0 z).1 (meFH F T 0 z).2):=A0c hG (W5a (F:=F) (b:=z.2) (g:=g) (y:=y) (c:=c) (l:=l) (chi:=chi) (k:=k) (T:=T) (p:=z.1)) (A1w ..) (G1r ..) rfl
theorem L3h(z:Mx×Bool):A0b Tryz.prog 248 wH (wSH 1 g c y l chi k T z.1 z.2) .normal (wSH 2 g c y l chi k T (meFH F T 1 z).1 (meFH F T 1 z).2):=A0c hG (W5b (F:=F) (b:=z.2) (g:=g) (y:=y) (c:=c) (l:=l) (chi:=chi) (k:=k) (T:=T) (p:=z.1)) (A1w ..) (G1r ..) rfl
theorem L3j(z:Mx×Bool):A0b Tryz.prog 248 wH (wSH 2 g c y l chi k T z.1 z.2) .normal (wSH 3 g c y l chi k T (meFH F T 2 z).1 (meFH F T 2 z).2):=A0c hG (W5c (F:=F) (b:=z.2) (g:=g) (y:=y) (c:=c) (l:=l) (chi:=chi) (k:=k) (T:=T) (p:=z.1)) (A1w ..) (G1r ..) rfl
theorem L3k(z:Mx×Bool):A0b Tryz.prog 248 wH (wSH 3 g c y l chi k T z.1 z.2) .normal (wSH 4 g c y l chi k T (meFH F T 3 z).1 (meFH F T 3 z).2):=A0c hG (W5d (F:=F) (b:=z.2) (g:=g) (y:=y) (c:=c) (l:=l) (chi:=chi) (k:=k) (T:=T) (p:=z.1)) (A1w ..) (G1r ..) rfl
theorem L3m(z:Mx×Bool):A0b Tryz.prog 248 wH (wSH 4 g c y l chi k T z.1 z.2) .normal (wSH 5 g c y l chi k T (meFH F T 4 z).1 (meFH F T 4 z).2):=A0c hG (W5e (F:=F) (b:=z.2) (g:=g) (y:=y) (c:=c) (l:=l) (chi:=chi) (k:=k) (T:=T) (p:=z.1)) (A1w ..) (G1r ..) rfl
theorem L3n(z:Mx×Bool):A0b Tryz.prog 248 wH (wSH 5 g c y l chi k T z.1 z.2) .normal (wSH 6 g c y l chi k T (meFH F T 5 z).1 (meFH F T 5 z).2):=A0c hG (W5g (F:=F) (b:=z.2) (g:=g) (y:=y) (c:=c) (l:=l) (chi:=chi) (k:=k) (T:=T) (p:=z.1)) (A1w ..) (G1r ..) rfl
theorem L3p(z:Mx×Bool):A0b Tryz.prog 248 wH (wSH 6 g c y l chi k T z.1 z.2) (.exit 16) (wS35 g c y l chi k T z.1 z.2):=A0c hG (W5h (F:=F) (b:=z.2) (g:=g) (y:=y) (c:=c) (l:=l) (chi:=chi) (k:=k) (T:=T) (p:=z.1)) (A1w ..) (U1q ..) rfl
theorem meLH:A0b Tryz.prog 248 (.block 16 (.loop wH)) (wSH 0 g c y l chi k T (p,b).1 (p,b).2) .normal (wS35 g c y l chi k T (A0k (meFH F T) 0 6 (p,b)).1 (A0k (meFH F T) 0 6 (p,b)).2) :=
 A0b.rounds (P:=Tryz.prog) (N:=248) (c:=wH) (id:=16) 6 (fun i z=>wSH i g c y l chi k T z.1 z.2) (fun z=>wS35 g c y l chi k T z.1 z.2) (meFH F T)
  (fun i z=>D0w (p:=fun i=>A0b Tryz.prog 248 wH (wSH i g c y l chi k T z.1 z.2) .normal (wSH (i+1:Nat) g c y l chi k T (meFH F T i z).1 (meFH F T i z).2))
   (L3g (hG:=hG) (g:=g) (y:=y) (c:=c) (l:=l) (chi:=chi) (k:=k) (T:=T)  (z:=z))
   (L3h (hG:=hG) (g:=g) (y:=y) (c:=c) (l:=l) (chi:=chi) (k:=k) (T:=T)  (z:=z))
   (L3j (hG:=hG) (g:=g) (y:=y) (c:=c) (l:=l) (chi:=chi) (k:=k) (T:=T)  (z:=z))
   (L3k (hG:=hG) (g:=g) (y:=y) (c:=c) (l:=l) (chi:=chi) (k:=k) (T:=T)  (z:=z))
   (L3m (hG:=hG) (g:=g) (y:=y) (c:=c) (l:=l) (chi:=chi) (k:=k) (T:=T)  (z:=z))
   (L3n (hG:=hG) (g:=g) (y:=y) (c:=c) (l:=l) (chi:=chi) (k:=k) (T:=T)  (z:=z))
   i)
  (fun z=>L3p (hG:=hG) (g:=g) (y:=y) (c:=c) (l:=l) (chi:=chi) (k:=k) (T:=T)  (z:=z)) (p,b)
theorem J2b(z:Mx×Bool):A0b Tryz.prog 248 wGL (wSJ 0 0 g c y l chi k z.1 p z.2) .normal (wSJ 0 1 g c y l chi k (meFJ F g.p.at k c.at 0 0 z).1 p (meFJ F g.p.at k c.at 0 0 z).2):=A0c hG (T3d (F:=F) (b:=z.2) (g:=g) (y:=y) (c:=c) (l:=l) (chi:=chi) (k:=k) (T:=z.1) (p:=p)) (B0x ..) (C0m ..) rfl
theorem J2c(z:Mx×Bool):A0b Tryz.prog 248 wGL (wSJ 0 1 g c y l chi k z.1 p z.2) .normal (wSJ 0 2 g c y l chi k (meFJ F g.p.at k c.at 0 1 z).1 p (meFJ F g.p.at k c.at 0 1 z).2):=A0c hG (T3e (F:=F) (b:=z.2) (g:=g) (y:=y) (c:=c) (l:=l) (chi:=chi) (k:=k) (T:=z.1) (p:=p)) (B0x ..) (C0m ..) rfl
theorem J2d(z:Mx×Bool):A0b Tryz.prog 248 wGL (wSJ 0 2 g c y l chi k z.1 p z.2) .normal (wSJ 0 3 g c y l chi k (meFJ F g.p.at k c.at 0 2 z).1 p (meFJ F g.p.at k c.at 0 2 z).2):=A0c hG (T3g (F:=F) (b:=z.2) (g:=g) (y:=y) (c:=c) (l:=l) (chi:=chi) (k:=k) (T:=z.1) (p:=p)) (B0x ..) (C0m ..) rfl
theorem J2e(z:Mx×Bool):A0b Tryz.prog 248 wGL (wSJ 0 3 g c y l chi k z.1 p z.2) .normal (wSJ 0 4 g c y l chi k (meFJ F g.p.at k c.at 0 3 z).1 p (meFJ F g.p.at k c.at 0 3 z).2):=A0c hG (T3h (F:=F) (b:=z.2) (g:=g) (y:=y) (c:=c) (l:=l) (chi:=chi) (k:=k) (T:=z.1) (p:=p)) (B0x ..) (C0m ..) rfl
theorem J2g(z:Mx×Bool):A0b Tryz.prog 248 wGL (wSJ 0 4 g c y l chi k z.1 p z.2) .normal (wSJ 0 5 g c y l chi k (meFJ F g.p.at k c.at 0 4 z).1 p (meFJ F g.p.at k c.at 0 4 z).2):=A0c hG (T3j (F:=F) (b:=z.2) (g:=g) (y:=y) (c:=c) (l:=l) (chi:=chi) (k:=k) (T:=z.1) (p:=p)) (B0x ..) (C0m ..) rfl
theorem J2h(z:Mx×Bool):A0b Tryz.prog 248 wGL (wSJ 0 5 g c y l chi k z.1 p z.2) .normal (wSJ 0 6 g c y l chi k (meFJ F g.p.at k c.at 0 5 z).1 p (meFJ F g.p.at k c.at 0 5 z).2):=A0c hG (T3k (F:=F) (b:=z.2) (g:=g) (y:=y) (c:=c) (l:=l) (chi:=chi) (k:=k) (T:=z.1) (p:=p)) (B0x ..) (C0m ..) rfl
theorem J2j(z:Mx×Bool):A0b Tryz.prog 248 wGL (wSJ 0 6 g c y l chi k z.1 p z.2) (.exit 12) (wSG 0 g c y l chi k z.1 p z.2):=A0c hG (T3m (F:=F) (b:=z.2) (g:=g) (y:=y) (c:=c) (l:=l) (chi:=chi) (k:=k) (T:=z.1) (p:=p)) (B0x ..) (G1q ..) rfl
theorem D4d:A0b Tryz.prog 248 (.block 12 (.loop wGL)) (wSJ 0 0 g c y l chi k (T,b).1 p (T,b).2) .normal (wSG 0 g c y l chi k (A0k (meFJ F g.p.at k c.at 0) 0 6 (T,b)).1 p (A0k (meFJ F g.p.at k c.at 0) 0 6 (T,b)).2) :=
 A0b.rounds (P:=Tryz.prog) (N:=248) (c:=wGL) (id:=12) 6 (fun i z=>wSJ 0 i g c y l chi k z.1 p z.2) (fun z=>wSG 0 g c y l chi k z.1 p z.2) (meFJ F g.p.at k c.at 0)
  (fun i z=>D0w (p:=fun i=>A0b Tryz.prog 248 wGL (wSJ 0 i g c y l chi k z.1 p z.2) .normal (wSJ 0 (i+1:Nat) g c y l chi k (meFJ F g.p.at k c.at 0 i z).1 p (meFJ F g.p.at k c.at 0 i z).2))
   (J2b (hG:=hG) (g:=g) (y:=y) (c:=c) (l:=l) (chi:=chi) (k:=k)  (p:=p) (z:=z))
   (J2c (hG:=hG) (g:=g) (y:=y) (c:=c) (l:=l) (chi:=chi) (k:=k)  (p:=p) (z:=z))
   (J2d (hG:=hG) (g:=g) (y:=y) (c:=c) (l:=l) (chi:=chi) (k:=k)  (p:=p) (z:=z))
   (J2e (hG:=hG) (g:=g) (y:=y) (c:=c) (l:=l) (chi:=chi) (k:=k)  (p:=p) (z:=z))
   (J2g (hG:=hG) (g:=g) (y:=y) (c:=c) (l:=l) (chi:=chi) (k:=k)  (p:=p) (z:=z))
   (J2h (hG:=hG) (g:=g) (y:=y) (c:=c) (l:=l) (chi:=chi) (k:=k)  (p:=p) (z:=z))
   i)
  (fun z=>J2j (hG:=hG) (g:=g) (y:=y) (c:=c) (l:=l) (chi:=chi) (k:=k)  (p:=p) (z:=z)) (T,b)
theorem G5v:A0b Tryz.prog 248 wG (wSG 0 g c y l chi k T p b) .normal (wSG 1 g c y l chi k (meFG F g.p.at k c.at 0 (T,b)).1 p (meFG F g.p.at k c.at 0 (T,b)).2):=by
 rw[C2e]
 have h:=(A0a hG (U4b (F:=F) (b:=b) (g:=g) (y:=y) (c:=c) (l:=l) (chi:=chi) (k:=k) (T:=T) (p:=p))).seq ((A0a hG (U4j (F:=F) (b:=b) (g:=g) (y:=y) (c:=c) (l:=l) (chi:=chi) (k:=k) (T:=T) (p:=p))).seq (D4d hG b g y c l chi k T p))
 unfold meFG
 generalize A0k (meFJ F g.p.at k c.at 0) 0 6 (T,b)=z at h ⊢
 exact (A0a hG (T4n (F:=F) (b:=b) (g:=g) (y:=y) (c:=c) (l:=l) (chi:=chi) (k:=k) (T:=T) (p:=p))).seq ((A0a hG (T4v (F:=F) (b:=b) (g:=g) (y:=y) (c:=c) (l:=l) (chi:=chi) (k:=k) (T:=T) (p:=p))).seq ((h.block (.inl rfl)).seq (A0a hG (U4r (F:=F) (b:=z.2) (g:=g) (y:=y) (c:=c) (l:=l) (chi:=chi) (k:=k) (T:=z.1) (p:=p)))))
theorem J2k(z:Mx×Bool):A0b Tryz.prog 248 wGL (wSJ 1 0 g c y l chi k z.1 p z.2) .normal (wSJ 1 1 g c y l chi k (meFJ F g.p.at k c.at 1 0 z).1 p (meFJ F g.p.at k c.at 1 0 z).2):=A0c hG (T3n (F:=F) (b:=z.2) (g:=g) (y:=y) (c:=c) (l:=l) (chi:=chi) (k:=k) (T:=z.1) (p:=p)) (B0x ..) (C0m ..) rfl
theorem J2m(z:Mx×Bool):A0b Tryz.prog 248 wGL (wSJ 1 1 g c y l chi k z.1 p z.2) .normal (wSJ 1 2 g c y l chi k (meFJ F g.p.at k c.at 1 1 z).1 p (meFJ F g.p.at k c.at 1 1 z).2):=A0c hG (T3p (F:=F) (b:=z.2) (g:=g) (y:=y) (c:=c) (l:=l) (chi:=chi) (k:=k) (T:=z.1) (p:=p)) (B0x ..) (C0m ..) rfl
theorem J2n(z:Mx×Bool):A0b Tryz.prog 248 wGL (wSJ 1 2 g c y l chi k z.1 p z.2) .normal (wSJ 1 3 g c y l chi k (meFJ F g.p.at k c.at 1 2 z).1 p (meFJ F g.p.at k c.at 1 2 z).2):=A0c hG (T3q (F:=F) (b:=z.2) (g:=g) (y:=y) (c:=c) (l:=l) (chi:=chi) (k:=k) (T:=z.1) (p:=p)) (B0x ..) (C0m ..) rfl
theorem J2p(z:Mx×Bool):A0b Tryz.prog 248 wGL (wSJ 1 3 g c y l chi k z.1 p z.2) .normal (wSJ 1 4 g c y l chi k (meFJ F g.p.at k c.at 1 3 z).1 p (meFJ F g.p.at k c.at 1 3 z).2):=A0c hG (T3r (F:=F) (b:=z.2) (g:=g) (y:=y) (c:=c) (l:=l) (chi:=chi) (k:=k) (T:=z.1) (p:=p)) (B0x ..) (C0m ..) rfl
theorem J2q(z:Mx×Bool):A0b Tryz.prog 248 wGL (wSJ 1 4 g c y l chi k z.1 p z.2) .normal (wSJ 1 5 g c y l chi k (meFJ F g.p.at k c.at 1 4 z).1 p (meFJ F g.p.at k c.at 1 4 z).2):=A0c hG (T3t (F:=F) (b:=z.2) (g:=g) (y:=y) (c:=c) (l:=l) (chi:=chi) (k:=k) (T:=z.1) (p:=p)) (B0x ..) (C0m ..) rfl
theorem J2r(z:Mx×Bool):A0b Tryz.prog 248 wGL (wSJ 1 5 g c y l chi k z.1 p z.2) .normal (wSJ 1 6 g c y l chi k (meFJ F g.p.at k c.at 1 5 z).1 p (meFJ F g.p.at k c.at 1 5 z).2):=A0c hG (T3u (F:=F) (b:=z.2) (g:=g) (y:=y) (c:=c) (l:=l) (chi:=chi) (k:=k) (T:=z.1) (p:=p)) (B0x ..) (C0m ..) rfl
theorem J2t(z:Mx×Bool):A0b Tryz.prog 248 wGL (wSJ 1 6 g c y l chi k z.1 p z.2) (.exit 12) (wSG 1 g c y l chi k z.1 p z.2):=A0c hG (T3v (F:=F) (b:=z.2) (g:=g) (y:=y) (c:=c) (l:=l) (chi:=chi) (k:=k) (T:=z.1) (p:=p)) (B0x ..) (G1q ..) rfl
theorem D4e:A0b Tryz.prog 248 (.block 12 (.loop wGL)) (wSJ 1 0 g c y l chi k (T,b).1 p (T,b).2) .normal (wSG 1 g c y l chi k (A0k (meFJ F g.p.at k c.at 1) 0 6 (T,b)).1 p (A0k (meFJ F g.p.at k c.at 1) 0 6 (T,b)).2) :=
 A0b.rounds (P:=Tryz.prog) (N:=248) (c:=wGL) (id:=12) 6 (fun i z=>wSJ 1 i g c y l chi k z.1 p z.2) (fun z=>wSG 1 g c y l chi k z.1 p z.2) (meFJ F g.p.at k c.at 1)
  (fun i z=>D0w (p:=fun i=>A0b Tryz.prog 248 wGL (wSJ 1 i g c y l chi k z.1 p z.2) .normal (wSJ 1 (i+1:Nat) g c y l chi k (meFJ F g.p.at k c.at 1 i z).1 p (meFJ F g.p.at k c.at 1 i z).2))
   (J2k (hG:=hG) (g:=g) (y:=y) (c:=c) (l:=l) (chi:=chi) (k:=k)  (p:=p) (z:=z))
   (J2m (hG:=hG) (g:=g) (y:=y) (c:=c) (l:=l) (chi:=chi) (k:=k)  (p:=p) (z:=z))
   (J2n (hG:=hG) (g:=g) (y:=y) (c:=c) (l:=l) (chi:=chi) (k:=k)  (p:=p) (z:=z))
   (J2p (hG:=hG) (g:=g) (y:=y) (c:=c) (l:=l) (chi:=chi) (k:=k)  (p:=p) (z:=z))
   (J2q (hG:=hG) (g:=g) (y:=y) (c:=c) (l:=l) (chi:=chi) (k:=k)  (p:=p) (z:=z))
   (J2r (hG:=hG) (g:=g) (y:=y) (c:=c) (l:=l) (chi:=chi) (k:=k)  (p:=p) (z:=z))
   i)
  (fun z=>J2t (hG:=hG) (g:=g) (y:=y) (c:=c) (l:=l) (chi:=chi) (k:=k)  (p:=p) (z:=z)) (T,b)
theorem G5w:A0b Tryz.prog 248 wG (wSG 1 g c y l chi k T p b) .normal (wSG 2 g c y l chi k (meFG F g.p.at k c.at 1 (T,b)).1 p (meFG F g.p.at k c.at 1 (T,b)).2):=by
 rw[C2e]
 have h:=(A0a hG (U4c (F:=F) (b:=b) (g:=g) (y:=y) (c:=c) (l:=l) (chi:=chi) (k:=k) (T:=T) (p:=p))).seq ((A0a hG (U4k (F:=F) (b:=b) (g:=g) (y:=y) (c:=c) (l:=l) (chi:=chi) (k:=k) (T:=T) (p:=p))).seq (D4e hG b g y c l chi k T p))
 unfold meFG
 generalize A0k (meFJ F g.p.at k c.at 1) 0 6 (T,b)=z at h ⊢
 exact (A0a hG (T4p (F:=F) (b:=b) (g:=g) (y:=y) (c:=c) (l:=l) (chi:=chi) (k:=k) (T:=T) (p:=p))).seq ((A0a hG (T4w (F:=F) (b:=b) (g:=g) (y:=y) (c:=c) (l:=l) (chi:=chi) (k:=k) (T:=T) (p:=p))).seq ((h.block (.inl rfl)).seq (A0a hG (U4t (F:=F) (b:=z.2) (g:=g) (y:=y) (c:=c) (l:=l) (chi:=chi) (k:=k) (T:=z.1) (p:=p)))))
theorem J2u(z:Mx×Bool):A0b Tryz.prog 248 wGL (wSJ 2 0 g c y l chi k z.1 p z.2) .normal (wSJ 2 1 g c y l chi k (meFJ F g.p.at k c.at 2 0 z).1 p (meFJ F g.p.at k c.at 2 0 z).2):=A0c hG (T3w (F:=F) (b:=z.2) (g:=g) (y:=y) (c:=c) (l:=l) (chi:=chi) (k:=k) (T:=z.1) (p:=p)) (B0x ..) (C0m ..) rfl
theorem J2v(z:Mx×Bool):A0b Tryz.prog 248 wGL (wSJ 2 1 g c y l chi k z.1 p z.2) .normal (wSJ 2 2 g c y l chi k (meFJ F g.p.at k c.at 2 1 z).1 p (meFJ F g.p.at k c.at 2 1 z).2):=A0c hG (T3x (F:=F) (b:=z.2) (g:=g) (y:=y) (c:=c) (l:=l) (chi:=chi) (k:=k) (T:=z.1) (p:=p)) (B0x ..) (C0m ..) rfl
theorem J2w(z:Mx×Bool):A0b Tryz.prog 248 wGL (wSJ 2 2 g c y l chi k z.1 p z.2) .normal (wSJ 2 3 g c y l chi k (meFJ F g.p.at k c.at 2 2 z).1 p (meFJ F g.p.at k c.at 2 2 z).2):=A0c hG (T3y (F:=F) (b:=z.2) (g:=g) (y:=y) (c:=c) (l:=l) (chi:=chi) (k:=k) (T:=z.1) (p:=p)) (B0x ..) (C0m ..) rfl
theorem J2x(z:Mx×Bool):A0b Tryz.prog 248 wGL (wSJ 2 3 g c y l chi k z.1 p z.2) .normal (wSJ 2 4 g c y l chi k (meFJ F g.p.at k c.at 2 3 z).1 p (meFJ F g.p.at k c.at 2 3 z).2):=A0c hG (T3z (F:=F) (b:=z.2) (g:=g) (y:=y) (c:=c) (l:=l) (chi:=chi) (k:=k) (T:=z.1) (p:=p)) (B0x ..) (C0m ..) rfl
theorem J2y(z:Mx×Bool):A0b Tryz.prog 248 wGL (wSJ 2 4 g c y l chi k z.1 p z.2) .normal (wSJ 2 5 g c y l chi k (meFJ F g.p.at k c.at 2 4 z).1 p (meFJ F g.p.at k c.at 2 4 z).2):=A0c hG (U3a (F:=F) (b:=z.2) (g:=g) (y:=y) (c:=c) (l:=l) (chi:=chi) (k:=k) (T:=z.1) (p:=p)) (B0x ..) (C0m ..) rfl
theorem J2z(z:Mx×Bool):A0b Tryz.prog 248 wGL (wSJ 2 5 g c y l chi k z.1 p z.2) .normal (wSJ 2 6 g c y l chi k (meFJ F g.p.at k c.at 2 5 z).1 p (meFJ F g.p.at k c.at 2 5 z).2):=A0c hG (U3b (F:=F) (b:=z.2) (g:=g) (y:=y) (c:=c) (l:=l) (chi:=chi) (k:=k) (T:=z.1) (p:=p)) (B0x ..) (C0m ..) rfl
theorem K2a(z:Mx×Bool):A0b Tryz.prog 248 wGL (wSJ 2 6 g c y l chi k z.1 p z.2) (.exit 12) (wSG 2 g c y l chi k z.1 p z.2):=A0c hG (U3c (F:=F) (b:=z.2) (g:=g) (y:=y) (c:=c) (l:=l) (chi:=chi) (k:=k) (T:=z.1) (p:=p)) (B0x ..) (G1q ..) rfl
theorem D4g:A0b Tryz.prog 248 (.block 12 (.loop wGL)) (wSJ 2 0 g c y l chi k (T,b).1 p (T,b).2) .normal (wSG 2 g c y l chi k (A0k (meFJ F g.p.at k c.at 2) 0 6 (T,b)).1 p (A0k (meFJ F g.p.at k c.at 2) 0 6 (T,b)).2) :=
 A0b.rounds (P:=Tryz.prog) (N:=248) (c:=wGL) (id:=12) 6 (fun i z=>wSJ 2 i g c y l chi k z.1 p z.2) (fun z=>wSG 2 g c y l chi k z.1 p z.2) (meFJ F g.p.at k c.at 2)
  (fun i z=>D0w (p:=fun i=>A0b Tryz.prog 248 wGL (wSJ 2 i g c y l chi k z.1 p z.2) .normal (wSJ 2 (i+1:Nat) g c y l chi k (meFJ F g.p.at k c.at 2 i z).1 p (meFJ F g.p.at k c.at 2 i z).2))
   (J2u (hG:=hG) (g:=g) (y:=y) (c:=c) (l:=l) (chi:=chi) (k:=k)  (p:=p) (z:=z))
   (J2v (hG:=hG) (g:=g) (y:=y) (c:=c) (l:=l) (chi:=chi) (k:=k)  (p:=p) (z:=z))
   (J2w (hG:=hG) (g:=g) (y:=y) (c:=c) (l:=l) (chi:=chi) (k:=k)  (p:=p) (z:=z))
   (J2x (hG:=hG) (g:=g) (y:=y) (c:=c) (l:=l) (chi:=chi) (k:=k)  (p:=p) (z:=z))
   (J2y (hG:=hG) (g:=g) (y:=y) (c:=c) (l:=l) (chi:=chi) (k:=k)  (p:=p) (z:=z))
   (J2z (hG:=hG) (g:=g) (y:=y) (c:=c) (l:=l) (chi:=chi) (k:=k)  (p:=p) (z:=z))
   i)
  (fun z=>K2a (hG:=hG) (g:=g) (y:=y) (c:=c) (l:=l) (chi:=chi) (k:=k)  (p:=p) (z:=z)) (T,b)
theorem G5x:A0b Tryz.prog 248 wG (wSG 2 g c y l chi k T p b) .normal (wSG 3 g c y l chi k (meFG F g.p.at k c.at 2 (T,b)).1 p (meFG F g.p.at k c.at 2 (T,b)).2):=by
 rw[C2e]
 have h:=(A0a hG (U4d (F:=F) (b:=b) (g:=g) (y:=y) (c:=c) (l:=l) (chi:=chi) (k:=k) (T:=T) (p:=p))).seq ((A0a hG (U4m (F:=F) (b:=b) (g:=g) (y:=y) (c:=c) (l:=l) (chi:=chi) (k:=k) (T:=T) (p:=p))).seq (D4g hG b g y c l chi k T p))
 unfold meFG
 generalize A0k (meFJ F g.p.at k c.at 2) 0 6 (T,b)=z at h ⊢
 exact (A0a hG (T4q (F:=F) (b:=b) (g:=g) (y:=y) (c:=c) (l:=l) (chi:=chi) (k:=k) (T:=T) (p:=p))).seq ((A0a hG (T4x (F:=F) (b:=b) (g:=g) (y:=y) (c:=c) (l:=l) (chi:=chi) (k:=k) (T:=T) (p:=p))).seq ((h.block (.inl rfl)).seq (A0a hG (U4u (F:=F) (b:=z.2) (g:=g) (y:=y) (c:=c) (l:=l) (chi:=chi) (k:=k) (T:=z.1) (p:=p)))))
theorem K2b(z:Mx×Bool):A0b Tryz.prog 248 wGL (wSJ 3 0 g c y l chi k z.1 p z.2) .normal (wSJ 3 1 g c y l chi k (meFJ F g.p.at k c.at 3 0 z).1 p (meFJ F g.p.at k c.at 3 0 z).2):=A0c hG (U3d (F:=F) (b:=z.2) (g:=g) (y:=y) (c:=c) (l:=l) (chi:=chi) (k:=k) (T:=z.1) (p:=p)) (B0x ..) (C0m ..) rfl
theorem K2c(z:Mx×Bool):A0b Tryz.prog 248 wGL (wSJ 3 1 g c y l chi k z.1 p z.2) .normal (wSJ 3 2 g c y l chi k (meFJ F g.p.at k c.at 3 1 z).1 p (meFJ F g.p.at k c.at 3 1 z).2):=A0c hG (U3e (F:=F) (b:=z.2) (g:=g) (y:=y) (c:=c) (l:=l) (chi:=chi) (k:=k) (T:=z.1) (p:=p)) (B0x ..) (C0m ..) rfl
theorem K2d(z:Mx×Bool):A0b Tryz.prog 248 wGL (wSJ 3 2 g c y l chi k z.1 p z.2) .normal (wSJ 3 3 g c y l chi k (meFJ F g.p.at k c.at 3 2 z).1 p (meFJ F g.p.at k c.at 3 2 z).2):=A0c hG (U3g (F:=F) (b:=z.2) (g:=g) (y:=y) (c:=c) (l:=l) (chi:=chi) (k:=k) (T:=z.1) (p:=p)) (B0x ..) (C0m ..) rfl
theorem K2e(z:Mx×Bool):A0b Tryz.prog 248 wGL (wSJ 3 3 g c y l chi k z.1 p z.2) .normal (wSJ 3 4 g c y l chi k (meFJ F g.p.at k c.at 3 3 z).1 p (meFJ F g.p.at k c.at 3 3 z).2):=A0c hG (U3h (F:=F) (b:=z.2) (g:=g) (y:=y) (c:=c) (l:=l) (chi:=chi) (k:=k) (T:=z.1) (p:=p)) (B0x ..) (C0m ..) rfl
theorem K2g(z:Mx×Bool):A0b Tryz.prog 248 wGL (wSJ 3 4 g c y l chi k z.1 p z.2) .normal (wSJ 3 5 g c y l chi k (meFJ F g.p.at k c.at 3 4 z).1 p (meFJ F g.p.at k c.at 3 4 z).2):=A0c hG (U3j (F:=F) (b:=z.2) (g:=g) (y:=y) (c:=c) (l:=l) (chi:=chi) (k:=k) (T:=z.1) (p:=p)) (B0x ..) (C0m ..) rfl
theorem K2h(z:Mx×Bool):A0b Tryz.prog 248 wGL (wSJ 3 5 g c y l chi k z.1 p z.2) .normal (wSJ 3 6 g c y l chi k (meFJ F g.p.at k c.at 3 5 z).1 p (meFJ F g.p.at k c.at 3 5 z).2):=A0c hG (U3k (F:=F) (b:=z.2) (g:=g) (y:=y) (c:=c) (l:=l) (chi:=chi) (k:=k) (T:=z.1) (p:=p)) (B0x ..) (C0m ..) rfl
theorem K2j(z:Mx×Bool):A0b Tryz.prog 248 wGL (wSJ 3 6 g c y l chi k z.1 p z.2) (.exit 12) (wSG 3 g c y l chi k z.1 p z.2):=A0c hG (U3m (F:=F) (b:=z.2) (g:=g) (y:=y) (c:=c) (l:=l) (chi:=chi) (k:=k) (T:=z.1) (p:=p)) (B0x ..) (G1q ..) rfl
theorem D4h:A0b Tryz.prog 248 (.block 12 (.loop wGL)) (wSJ 3 0 g c y l chi k (T,b).1 p (T,b).2) .normal (wSG 3 g c y l chi k (A0k (meFJ F g.p.at k c.at 3) 0 6 (T,b)).1 p (A0k (meFJ F g.p.at k c.at 3) 0 6 (T,b)).2) :=
 A0b.rounds (P:=Tryz.prog) (N:=248) (c:=wGL) (id:=12) 6 (fun i z=>wSJ 3 i g c y l chi k z.1 p z.2) (fun z=>wSG 3 g c y l chi k z.1 p z.2) (meFJ F g.p.at k c.at 3)
  (fun i z=>D0w (p:=fun i=>A0b Tryz.prog 248 wGL (wSJ 3 i g c y l chi k z.1 p z.2) .normal (wSJ 3 (i+1:Nat) g c y l chi k (meFJ F g.p.at k c.at 3 i z).1 p (meFJ F g.p.at k c.at 3 i z).2))
   (K2b (hG:=hG) (g:=g) (y:=y) (c:=c) (l:=l) (chi:=chi) (k:=k)  (p:=p) (z:=z))
   (K2c (hG:=hG) (g:=g) (y:=y) (c:=c) (l:=l) (chi:=chi) (k:=k)  (p:=p) (z:=z))
   (K2d (hG:=hG) (g:=g) (y:=y) (c:=c) (l:=l) (chi:=chi) (k:=k)  (p:=p) (z:=z))
   (K2e (hG:=hG) (g:=g) (y:=y) (c:=c) (l:=l) (chi:=chi) (k:=k)  (p:=p) (z:=z))
   (K2g (hG:=hG) (g:=g) (y:=y) (c:=c) (l:=l) (chi:=chi) (k:=k)  (p:=p) (z:=z))
   (K2h (hG:=hG) (g:=g) (y:=y) (c:=c) (l:=l) (chi:=chi) (k:=k)  (p:=p) (z:=z))
   i)
  (fun z=>K2j (hG:=hG) (g:=g) (y:=y) (c:=c) (l:=l) (chi:=chi) (k:=k)  (p:=p) (z:=z)) (T,b)
theorem G5y:A0b Tryz.prog 248 wG (wSG 3 g c y l chi k T p b) .normal (wSG 4 g c y l chi k (meFG F g.p.at k c.at 3 (T,b)).1 p (meFG F g.p.at k c.at 3 (T,b)).2):=by
 rw[C2e]
 have h:=(A0a hG (U4e (F:=F) (b:=b) (g:=g) (y:=y) (c:=c) (l:=l) (chi:=chi) (k:=k) (T:=T) (p:=p))).seq ((A0a hG (U4n (F:=F) (b:=b) (g:=g) (y:=y) (c:=c) (l:=l) (chi:=chi) (k:=k) (T:=T) (p:=p))).seq (D4h hG b g y c l chi k T p))
 unfold meFG
 generalize A0k (meFJ F g.p.at k c.at 3) 0 6 (T,b)=z at h ⊢
 exact (A0a hG (T4r (F:=F) (b:=b) (g:=g) (y:=y) (c:=c) (l:=l) (chi:=chi) (k:=k) (T:=T) (p:=p))).seq ((A0a hG (T4y (F:=F) (b:=b) (g:=g) (y:=y) (c:=c) (l:=l) (chi:=chi) (k:=k) (T:=T) (p:=p))).seq ((h.block (.inl rfl)).seq (A0a hG (U4v (F:=F) (b:=z.2) (g:=g) (y:=y) (c:=c) (l:=l) (chi:=chi) (k:=k) (T:=z.1) (p:=p)))))
theorem K2k(z:Mx×Bool):A0b Tryz.prog 248 wGL (wSJ 4 0 g c y l chi k z.1 p z.2) .normal (wSJ 4 1 g c y l chi k (meFJ F g.p.at k c.at 4 0 z).1 p (meFJ F g.p.at k c.at 4 0 z).2):=A0c hG (U3n (F:=F) (b:=z.2) (g:=g) (y:=y) (c:=c) (l:=l) (chi:=chi) (k:=k) (T:=z.1) (p:=p)) (B0x ..) (C0m ..) rfl
theorem K2m(z:Mx×Bool):A0b Tryz.prog 248 wGL (wSJ 4 1 g c y l chi k z.1 p z.2) .normal (wSJ 4 2 g c y l chi k (meFJ F g.p.at k c.at 4 1 z).1 p (meFJ F g.p.at k c.at 4 1 z).2):=A0c hG (U3p (F:=F) (b:=z.2) (g:=g) (y:=y) (c:=c) (l:=l) (chi:=chi) (k:=k) (T:=z.1) (p:=p)) (B0x ..) (C0m ..) rfl
theorem K2n(z:Mx×Bool):A0b Tryz.prog 248 wGL (wSJ 4 2 g c y l chi k z.1 p z.2) .normal (wSJ 4 3 g c y l chi k (meFJ F g.p.at k c.at 4 2 z).1 p (meFJ F g.p.at k c.at 4 2 z).2):=A0c hG (U3q (F:=F) (b:=z.2) (g:=g) (y:=y) (c:=c) (l:=l) (chi:=chi) (k:=k) (T:=z.1) (p:=p)) (B0x ..) (C0m ..) rfl
theorem K2p(z:Mx×Bool):A0b Tryz.prog 248 wGL (wSJ 4 3 g c y l chi k z.1 p z.2) .normal (wSJ 4 4 g c y l chi k (meFJ F g.p.at k c.at 4 3 z).1 p (meFJ F g.p.at k c.at 4 3 z).2):=A0c hG (U3r (F:=F) (b:=z.2) (g:=g) (y:=y) (c:=c) (l:=l) (chi:=chi) (k:=k) (T:=z.1) (p:=p)) (B0x ..) (C0m ..) rfl
theorem K2q(z:Mx×Bool):A0b Tryz.prog 248 wGL (wSJ 4 4 g c y l chi k z.1 p z.2) .normal (wSJ 4 5 g c y l chi k (meFJ F g.p.at k c.at 4 4 z).1 p (meFJ F g.p.at k c.at 4 4 z).2):=A0c hG (U3t (F:=F) (b:=z.2) (g:=g) (y:=y) (c:=c) (l:=l) (chi:=chi) (k:=k) (T:=z.1) (p:=p)) (B0x ..) (C0m ..) rfl
theorem K2r(z:Mx×Bool):A0b Tryz.prog 248 wGL (wSJ 4 5 g c y l chi k z.1 p z.2) .normal (wSJ 4 6 g c y l chi k (meFJ F g.p.at k c.at 4 5 z).1 p (meFJ F g.p.at k c.at 4 5 z).2):=A0c hG (U3u (F:=F) (b:=z.2) (g:=g) (y:=y) (c:=c) (l:=l) (chi:=chi) (k:=k) (T:=z.1) (p:=p)) (B0x ..) (C0m ..) rfl
theorem K2t(z:Mx×Bool):A0b Tryz.prog 248 wGL (wSJ 4 6 g c y l chi k z.1 p z.2) (.exit 12) (wSG 4 g c y l chi k z.1 p z.2):=A0c hG (U3v (F:=F) (b:=z.2) (g:=g) (y:=y) (c:=c) (l:=l) (chi:=chi) (k:=k) (T:=z.1) (p:=p)) (B0x ..) (G1q ..) rfl
theorem D4j:A0b Tryz.prog 248 (.block 12 (.loop wGL)) (wSJ 4 0 g c y l chi k (T,b).1 p (T,b).2) .normal (wSG 4 g c y l chi k (A0k (meFJ F g.p.at k c.at 4) 0 6 (T,b)).1 p (A0k (meFJ F g.p.at k c.at 4) 0 6 (T,b)).2) :=
 A0b.rounds (P:=Tryz.prog) (N:=248) (c:=wGL) (id:=12) 6 (fun i z=>wSJ 4 i g c y l chi k z.1 p z.2) (fun z=>wSG 4 g c y l chi k z.1 p z.2) (meFJ F g.p.at k c.at 4)
  (fun i z=>D0w (p:=fun i=>A0b Tryz.prog 248 wGL (wSJ 4 i g c y l chi k z.1 p z.2) .normal (wSJ 4 (i+1:Nat) g c y l chi k (meFJ F g.p.at k c.at 4 i z).1 p (meFJ F g.p.at k c.at 4 i z).2))
   (K2k (hG:=hG) (g:=g) (y:=y) (c:=c) (l:=l) (chi:=chi) (k:=k)  (p:=p) (z:=z))
   (K2m (hG:=hG) (g:=g) (y:=y) (c:=c) (l:=l) (chi:=chi) (k:=k)  (p:=p) (z:=z))
   (K2n (hG:=hG) (g:=g) (y:=y) (c:=c) (l:=l) (chi:=chi) (k:=k)  (p:=p) (z:=z))
   (K2p (hG:=hG) (g:=g) (y:=y) (c:=c) (l:=l) (chi:=chi) (k:=k)  (p:=p) (z:=z))
   (K2q (hG:=hG) (g:=g) (y:=y) (c:=c) (l:=l) (chi:=chi) (k:=k)  (p:=p) (z:=z))
   (K2r (hG:=hG) (g:=g) (y:=y) (c:=c) (l:=l) (chi:=chi) (k:=k)  (p:=p) (z:=z))
   i)
  (fun z=>K2t (hG:=hG) (g:=g) (y:=y) (c:=c) (l:=l) (chi:=chi) (k:=k)  (p:=p) (z:=z)) (T,b)
theorem G5z:A0b Tryz.prog 248 wG (wSG 4 g c y l chi k T p b) .normal (wSG 5 g c y l chi k (meFG F g.p.at k c.at 4 (T,b)).1 p (meFG F g.p.at k c.at 4 (T,b)).2):=by
 rw[C2e]
 have h:=(A0a hG (U4g (F:=F) (b:=b) (g:=g) (y:=y) (c:=c) (l:=l) (chi:=chi) (k:=k) (T:=T) (p:=p))).seq ((A0a hG (U4p (F:=F) (b:=b) (g:=g) (y:=y) (c:=c) (l:=l) (chi:=chi) (k:=k) (T:=T) (p:=p))).seq (D4j hG b g y c l chi k T p))
 unfold meFG
 generalize A0k (meFJ F g.p.at k c.at 4) 0 6 (T,b)=z at h ⊢
 exact (A0a hG (T4t (F:=F) (b:=b) (g:=g) (y:=y) (c:=c) (l:=l) (chi:=chi) (k:=k) (T:=T) (p:=p))).seq ((A0a hG (T4z (F:=F) (b:=b) (g:=g) (y:=y) (c:=c) (l:=l) (chi:=chi) (k:=k) (T:=T) (p:=p))).seq ((h.block (.inl rfl)).seq (A0a hG (U4w (F:=F) (b:=z.2) (g:=g) (y:=y) (c:=c) (l:=l) (chi:=chi) (k:=k) (T:=z.1) (p:=p)))))
theorem K2u(z:Mx×Bool):A0b Tryz.prog 248 wGL (wSJ 5 0 g c y l chi k z.1 p z.2) .normal (wSJ 5 1 g c y l chi k (meFJ F g.p.at k c.at 5 0 z).1 p (meFJ F g.p.at k c.at 5 0 z).2):=A0c hG (U3w (F:=F) (b:=z.2) (g:=g) (y:=y) (c:=c) (l:=l) (chi:=chi) (k:=k) (T:=z.1) (p:=p)) (B0x ..) (C0m ..) rfl
theorem K2v(z:Mx×Bool):A0b Tryz.prog 248 wGL (wSJ 5 1 g c y l chi k z.1 p z.2) .normal (wSJ 5 2 g c y l chi k (meFJ F g.p.at k c.at 5 1 z).1 p (meFJ F g.p.at k c.at 5 1 z).2):=A0c hG (U3x (F:=F) (b:=z.2) (g:=g) (y:=y) (c:=c) (l:=l) (chi:=chi) (k:=k) (T:=z.1) (p:=p)) (B0x ..) (C0m ..) rfl
theorem K2w(z:Mx×Bool):A0b Tryz.prog 248 wGL (wSJ 5 2 g c y l chi k z.1 p z.2) .normal (wSJ 5 3 g c y l chi k (meFJ F g.p.at k c.at 5 2 z).1 p (meFJ F g.p.at k c.at 5 2 z).2):=A0c hG (U3y (F:=F) (b:=z.2) (g:=g) (y:=y) (c:=c) (l:=l) (chi:=chi) (k:=k) (T:=z.1) (p:=p)) (B0x ..) (C0m ..) rfl
theorem K2x(z:Mx×Bool):A0b Tryz.prog 248 wGL (wSJ 5 3 g c y l chi k z.1 p z.2) .normal (wSJ 5 4 g c y l chi k (meFJ F g.p.at k c.at 5 3 z).1 p (meFJ F g.p.at k c.at 5 3 z).2):=A0c hG (U3z (F:=F) (b:=z.2) (g:=g) (y:=y) (c:=c) (l:=l) (chi:=chi) (k:=k) (T:=z.1) (p:=p)) (B0x ..) (C0m ..) rfl
theorem K2y(z:Mx×Bool):A0b Tryz.prog 248 wGL (wSJ 5 4 g c y l chi k z.1 p z.2) .normal (wSJ 5 5 g c y l chi k (meFJ F g.p.at k c.at 5 4 z).1 p (meFJ F g.p.at k c.at 5 4 z).2):=A0c hG (V3a (F:=F) (b:=z.2) (g:=g) (y:=y) (c:=c) (l:=l) (chi:=chi) (k:=k) (T:=z.1) (p:=p)) (B0x ..) (C0m ..) rfl
theorem K2z(z:Mx×Bool):A0b Tryz.prog 248 wGL (wSJ 5 5 g c y l chi k z.1 p z.2) .normal (wSJ 5 6 g c y l chi k (meFJ F g.p.at k c.at 5 5 z).1 p (meFJ F g.p.at k c.at 5 5 z).2):=A0c hG (V3b (F:=F) (b:=z.2) (g:=g) (y:=y) (c:=c) (l:=l) (chi:=chi) (k:=k) (T:=z.1) (p:=p)) (B0x ..) (C0m ..) rfl
theorem L2a(z:Mx×Bool):A0b Tryz.prog 248 wGL (wSJ 5 6 g c y l chi k z.1 p z.2) (.exit 12) (wSG 5 g c y l chi k z.1 p z.2):=A0c hG (V3c (F:=F) (b:=z.2) (g:=g) (y:=y) (c:=c) (l:=l) (chi:=chi) (k:=k) (T:=z.1) (p:=p)) (B0x ..) (G1q ..) rfl
theorem D4k:A0b Tryz.prog 248 (.block 12 (.loop wGL)) (wSJ 5 0 g c y l chi k (T,b).1 p (T,b).2) .normal (wSG 5 g c y l chi k (A0k (meFJ F g.p.at k c.at 5) 0 6 (T,b)).1 p (A0k (meFJ F g.p.at k c.at 5) 0 6 (T,b)).2) :=
 A0b.rounds (P:=Tryz.prog) (N:=248) (c:=wGL) (id:=12) 6 (fun i z=>wSJ 5 i g c y l chi k z.1 p z.2) (fun z=>wSG 5 g c y l chi k z.1 p z.2) (meFJ F g.p.at k c.at 5)
  (fun i z=>D0w (p:=fun i=>A0b Tryz.prog 248 wGL (wSJ 5 i g c y l chi k z.1 p z.2) .normal (wSJ 5 (i+1:Nat) g c y l chi k (meFJ F g.p.at k c.at 5 i z).1 p (meFJ F g.p.at k c.at 5 i z).2))
   (K2u (hG:=hG) (g:=g) (y:=y) (c:=c) (l:=l) (chi:=chi) (k:=k)  (p:=p) (z:=z))
   (K2v (hG:=hG) (g:=g) (y:=y) (c:=c) (l:=l) (chi:=chi) (k:=k)  (p:=p) (z:=z))
   (K2w (hG:=hG) (g:=g) (y:=y) (c:=c) (l:=l) (chi:=chi) (k:=k)  (p:=p) (z:=z))
   (K2x (hG:=hG) (g:=g) (y:=y) (c:=c) (l:=l) (chi:=chi) (k:=k)  (p:=p) (z:=z))
   (K2y (hG:=hG) (g:=g) (y:=y) (c:=c) (l:=l) (chi:=chi) (k:=k)  (p:=p) (z:=z))
   (K2z (hG:=hG) (g:=g) (y:=y) (c:=c) (l:=l) (chi:=chi) (k:=k)  (p:=p) (z:=z))
   i)
  (fun z=>L2a (hG:=hG) (g:=g) (y:=y) (c:=c) (l:=l) (chi:=chi) (k:=k)  (p:=p) (z:=z)) (T,b)
theorem H5a:A0b Tryz.prog 248 wG (wSG 5 g c y l chi k T p b) .normal (wSG 6 g c y l chi k (meFG F g.p.at k c.at 5 (T,b)).1 p (meFG F g.p.at k c.at 5 (T,b)).2):=by
 rw[C2e]
 have h:=(A0a hG (U4h (F:=F) (b:=b) (g:=g) (y:=y) (c:=c) (l:=l) (chi:=chi) (k:=k) (T:=T) (p:=p))).seq ((A0a hG (U4q (F:=F) (b:=b) (g:=g) (y:=y) (c:=c) (l:=l) (chi:=chi) (k:=k) (T:=T) (p:=p))).seq (D4k hG b g y c l chi k T p))
 unfold meFG
 generalize A0k (meFJ F g.p.at k c.at 5) 0 6 (T,b)=z at h ⊢
 exact (A0a hG (T4u (F:=F) (b:=b) (g:=g) (y:=y) (c:=c) (l:=l) (chi:=chi) (k:=k) (T:=T) (p:=p))).seq ((A0a hG (U4a (F:=F) (b:=b) (g:=g) (y:=y) (c:=c) (l:=l) (chi:=chi) (k:=k) (T:=T) (p:=p))).seq ((h.block (.inl rfl)).seq (A0a hG (U4x (F:=F) (b:=z.2) (g:=g) (y:=y) (c:=c) (l:=l) (chi:=chi) (k:=k) (T:=z.1) (p:=p)))))
theorem H5b:A0b Tryz.prog 248 wG (wSG 6 g c y l chi k T p b) (.exit 10) (wS35 g c y l chi k T p b):=A0c hG (V5z (F:=F) (b:=b) (g:=g) (y:=y) (c:=c) (l:=l) (chi:=chi) (k:=k) (T:=T) (p:=p)) (C4n ..) (U1q ..) rfl
theorem meLG:A0b Tryz.prog 248 (.block 10 (.loop wG)) (wSG 0 g c y l chi k T p b) .normal (wS35 g c y l chi k (A0k (meFG F g.p.at k c.at) 0 6 (T,b)).1 p (A0k (meFG F g.p.at k c.at) 0 6 (T,b)).2) :=
 A0b.rounds (P:=Tryz.prog) (N:=248) (c:=wG) (id:=10) 6 (fun i z=>wSG i g c y l chi k z.1 p z.2) (fun z=>wS35 g c y l chi k z.1 p z.2) (meFG F g.p.at k c.at)
  (fun i z=>D0w (p:=fun i=>A0b Tryz.prog 248 wG (wSG i g c y l chi k z.1 p z.2) .normal (wSG (i+1:Nat) g c y l chi k (meFG F g.p.at k c.at i z).1 p (meFG F g.p.at k c.at i z).2))
   (G5v hG z.2 g y c l chi k z.1 p)
   (G5w hG z.2 g y c l chi k z.1 p)
   (G5x hG z.2 g y c l chi k z.1 p)
   (G5y hG z.2 g y c l chi k z.1 p)
   (G5z hG z.2 g y c l chi k z.1 p)
   (H5a hG z.2 g y c l chi k z.1 p)
   i)
  (fun z=>H5b hG z.2 g y c l chi k z.1 p) (T,b)
end
def GCB.zero:GCB:=⟨Gs.zero,0,false⟩
def G0w(F:GOps)(g:Gs)(c:M6)(y:R6)(l:M6)(chi:Int):GCB×Bool :=
 let k:=A0k (meFF F l c) 0 6 (mx0,false)
 let T:=A0k (meFG F g.p.at k.1 c.at) 0 6 (mx0,k.2)
 let p:=A0k (meFH F T.1) 0 6 (mx0,T.2)
 let z:=meZ F g y k.1 p.1 p.2
 (⟨z.1.a,bif z.1.b then chi else 0,z.1.b⟩,z.2)
def T0m(F:GOps)(g:Gs)(c:M6)(y:R6)(l:M6)(e:Int×Bool):GCB×Bool :=
 bif e.2 then (GCB.zero,true) else bif decide (e.1>32985348833280) then (⟨g,e.1,false⟩,false) else G0w F g c y l e.1
def K0r(F:GOps)(b:Bool)(a:Gs×P2×P2×Unit):GCB×Bool :=
 let s:=A0k (meFA F) 0 2 ((a.2.1,a.2.2.1),b)
 let x:=F.pt s.2 (a.1,())
 let z:=A0k (meFB F a.1.q s.1.1 x.1) 0 13 (mx0,x.2)
 let d:=F.cen z.2 (N0r z.1)
 let p:=F.pro d.2 d.1.x d.1.x
 let c:=F.pro p.2 x.1 d.1.x
 let n:=F.ont c.2 p.1 67108864 268435456
 let y:=A0k (meFD F d.1.m) 0 6 ((W0w s.1.2.a s.1.2.b).at,n.2)
 let l:=F.rt y.2 (n.1,6,())
 let u:=F.so l.2 (l.1,R6.of y.1,6,())
 let e:=A0k (meFE F (R6.of y.1) u.1) 0 6 (0,u.2)
 T0m F a.1 c.1 (R6.of y.1) l.1 e
noncomputable abbrev wEnd:Code:=.seq w35 (.seq (.seq w36 (.block 8 (.loop wF))) (.seq (.seq w41 (.block 10 (.loop wG))) (.seq (.seq w56 (.block 16 (.loop wH))) (.seq w65 (.seq w66 w68)))))
theorem A3z(g:Gs)(c:M6)(y:R6)(l:M6)(chi:Int)(b:Bool):G0k [0,nD] (E0d 248 [0,8,9,10]) (gSt 248 [(0,.ptr 0 0),(8,.ptr nD 0),(9,.val (.int .i64 chi)),(10,.val (.bool false)),(5,.ptr nA 0),(21,.ptr nI 0),(22,.ptr nJ 0),(24,.ptr nK 0),(25,.val (.int .i64 chi))] [(0,.row 57 [.val (.bool b)]),(nA,.row 42 g.av),(nD,.row 42 g.av),(nI,.row 40 c.av),(nJ,.row 38 y.av),(nK,.row 40 l.av)] nL)=wR g chi false b:=by kernel_rfl
theorem T3c(g:Gs)(c:M6)(y:R6)(l:M6)(chi:Int)(b:Bool):gSt 248 [(0,.ptr 0 0),(8,.ptr nD 0),(9,.any),(10,.any),(5,.ptr nA 0),(21,.ptr nI 0),(22,.ptr nJ 0),(24,.ptr nK 0),(25,.val (.int .i64 chi))] [(0,.row 57 [.val (.bool b)]),(nA,.row 42 g.av),(nD,.row 42 Gs.zero.av),(nI,.row 40 c.av),(nJ,.row 38 y.av),(nK,.row 40 l.av)] nL=wS25 g c y l chi b:=by kernel_rfl
section
variable {F:GOps} (hG:GamOk Tryz.prog (eE F).gam)
include hG
theorem V2g(g:Gs)(c:M6)(y:R6)(l:M6)(chi:Int):A0b Tryz.prog 248 wEnd (wS25 g c y l chi false) .ret (wR2 (G0w F g c y l chi).1.g (G0w F g c y l chi).1.chi (G0w F g c y l chi).1.ok (G0w F g c y l chi).2):=by
 have h35:=A0a hG (wq35 (F:=F) (b:=false) (g:=g) (c:=c) (y:=y) (l:=l) (chi:=chi))
 have h36:=(A0a hG (wq36 (F:=F) (b:=false) (g:=g) (c:=c) (y:=y) (l:=l) (chi:=chi) (k:=mx0) (T:=mx0) (p:=mx0))).seq (meLF (hG:=hG) (b:=false) (g:=g) (c:=c) (y:=y) (l:=l) (chi:=chi) (k:=mx0) (T:=mx0) (p:=mx0))
 unfold G0w
 dsimp only
 generalize A0k (meFF F l c) 0 6 (mx0,false)=k at h36 ⊢
 have h41:=(A0a hG (wq41 (F:=F) (b:=k.2) (g:=g) (c:=c) (y:=y) (l:=l) (chi:=chi) (k:=k.1) (T:=mx0) (p:=mx0))).seq (meLG (hG:=hG) (b:=k.2) (g:=g) (c:=c) (y:=y) (l:=l) (chi:=chi) (k:=k.1) (T:=mx0) (p:=mx0))
 generalize A0k (meFG F g.p.at k.1 c.at) 0 6 (mx0,k.2)=T at h41 ⊢
 have h56:=(A0a hG (wq56 (F:=F) (b:=T.2) (g:=g) (c:=c) (y:=y) (l:=l) (chi:=chi) (k:=k.1) (T:=T.1) (p:=mx0))).seq (meLH (hG:=hG) (b:=T.2) (g:=g) (c:=c) (y:=y) (l:=l) (chi:=chi) (k:=k.1) (T:=T.1) (p:=mx0))
 generalize A0k (meFH F T.1) 0 6 (mx0,T.2)=p at h56 ⊢
 have h65:=A0a hG (wq65 (F:=F) (b:=p.2) (g:=g) (c:=c) (y:=y) (l:=l) (chi:=chi) (k:=k.1) (T:=T.1) (p:=p.1))
 generalize meZ F g y k.1 p.1 p.2=z at h65 ⊢
 have h66:A0b Tryz.prog 248 w66 (wS65 chi z.1.b z.1.a z.2) .normal (wS65 (bif z.1.b then chi else 0) z.1.b z.1.a z.2):=by
  refine A0a hG ((wq66 (F:=F) (b:=z.2) (g:=z.1.a) (chi:=chi) (ok:=z.1.b)).trans ?_)
  cases z.1.b<;>rfl
 have h68:=A0a hG (wq68 (F:=F) (b:=z.2) (g:=z.1.a) (chi:=bif z.1.b then chi else 0) (ok:=z.1.b))
 exact h35.seq (h36.seq (h41.seq (h56.seq (h65.seq (h66.seq h68)))))
def M0g(r:GCB×Bool)(c:Code)(s:St):Prop:=A0b Tryz.prog 248 c s .ret (wR r.1.g r.1.chi r.1.ok r.2)∨A0b Tryz.prog 248 c s .ret (wR2 r.1.g r.1.chi r.1.ok r.2)
omit hG in
theorem M0g.pre{r:GCB×Bool}{c d:Code}{s s1:St}(h:A0b Tryz.prog 248 d s .normal s1)(k:M0g r c s1):M0g r (.seq d c) s:=by
 rcases k with k | k
 ·exact .inl (h.seq k)
 ·exact .inr (h.seq k)
theorem W2x(g:Gs)(c:M6)(y:R6)(l:M6)(e:Int×Bool):M0g (T0m F g c y l e) (.seq w31 (.seq w33 wEnd)) (wS25 g c y l e.1 e.2):=by
 obtain ⟨chi,b⟩:=e
 unfold T0m
 cases b with
 | true=>exact .inl ((A0a hG (U5h (F:=F) (g:=g) (c:=c) (y:=y) (l:=l) (chi:=chi))).seqR)
 | false =>
  refine M0g.pre (A0a hG (U5g (F:=F) (g:=g) (c:=c) (y:=y) (l:=l) (chi:=chi))) ?_
  have h33:=wq33 (F:=F) (b:=false) (g:=g) (c:=c) (y:=y) (l:=l) (chi:=chi)
  simp only[cond_false]
  by_cases hc:chi>32985348833280
  ·rw[decide_eq_true hc,cond_true]at h33 ⊢
   have h:=A0a hG h33
   refine .inl (A0b.seqR (h.weak_end ?_ (Nat.le_refl _) (Nat.le_refl _)))
   rw[← A3z g c y l chi false]
   exact C0e _ _ _
  ·rw[decide_eq_false hc,cond_false,T3c]at h33
   rw[decide_eq_false hc,cond_false]
   exact M0g.pre (A0a hG h33) (.inr (V2g hG g c y l chi))
theorem L2b(b:Bool)(a:Gs×P2×P2×Unit):M0g (K0r F b a) (.seq w0 (.seq (.seq w1 (.block 0 (.loop wA))) (.seq w6 (.seq w7 (.seq (.seq w8 (.block 2 (.loop wB))) (.seq w15 (.seq w16 (.seq w17 (.seq w18 (.seq (.seq w19 (.block 4 (.loop wD))) (.seq w24 (.seq w25 (.seq (.seq w26 (.block 6 (.loop wE))) (.seq w31 (.seq w33 wEnd))))))))))))))) (B0t 248 (.ptr 0 0 :: Args.encs a) (row 57 b)):=by
 obtain ⟨g,sky,body,_⟩:=a
 refine M0g.pre (A0a hG (wq0 (F:=F) (b:=b) (g:=g) (sky:=sky) (body:=body))) ?_
 unfold K0r
 dsimp only
 refine M0g.pre ((A0a hG (wq1 (F:=F) (b:=b) (g:=g) (sky:=sky) (body:=body))).seq (meLA (hG:=hG) (b:=b) (g:=g) (sky:=sky) (body:=body))) ?_
 generalize A0k (meFA F) 0 2 ((sky,body),b)=s
 refine M0g.pre (A0a hG (wq6 (F:=F) (b:=s.2) (g:=g) (sky:=s.1.1) (body:=s.1.2))) ?_
 generalize F.pt s.2 (g,())=x
 refine M0g.pre (A0a hG (wq7 (F:=F) (b:=x.2) (g:=g) (sky:=s.1.1) (body:=s.1.2) (x:=x.1))) ?_
 refine M0g.pre ((A0a hG (wq8 (F:=F) (b:=x.2) (g:=g) (sky:=s.1.1) (body:=s.1.2) (x:=x.1) (Z:=mx0))).seq (meLB (hG:=hG) (b:=x.2) (g:=g) (sky:=s.1.1) (body:=s.1.2) (x:=x.1) (Z:=mx0))) ?_
 generalize A0k (meFB F g.q s.1.1 x.1) 0 13 (mx0,x.2)=z
 refine M0g.pre (A0a hG (wq15 (F:=F) (b:=z.2) (g:=g) (sky:=s.1.1) (body:=s.1.2) (x:=x.1) (Z:=z.1))) ?_
 generalize F.cen z.2 (N0r z.1)=d
 refine M0g.pre (A0a hG (wq16 (F:=F) (b:=d.2) (g:=g) (body:=s.1.2) (x:=x.1) (z:=d.1.x) (m:=d.1.m))) ?_
 generalize F.pro d.2 d.1.x d.1.x=p
 generalize F.pro p.2 x.1 d.1.x=c
 refine M0g.pre (A0a hG (wq17 (F:=F) (b:=c.2) (g:=g) (body:=s.1.2) (m:=d.1.m) (s:=p.1) (c:=c.1))) ?_
 generalize F.ont c.2 p.1 67108864 268435456=n
 refine M0g.pre (A0a hG (wq18 (F:=F) (b:=n.2) (g:=g) (body:=s.1.2) (m:=d.1.m) (s:=n.1) (c:=c.1))) ?_
 refine M0g.pre ((A0a hG (wq19 (F:=F) (b:=n.2) (g:=g) (m:=d.1.m) (s:=n.1) (c:=c.1) (Y:=(W0w s.1.2.a s.1.2.b).at))).seq (meLD (hG:=hG) (b:=n.2) (g:=g) (m:=d.1.m) (s:=n.1) (c:=c.1) (Y:=(W0w s.1.2.a s.1.2.b).at))) ?_
 generalize A0k (meFD F d.1.m) 0 6 ((W0w s.1.2.a s.1.2.b).at,n.2)=y
 refine M0g.pre (A0a hG (wq24 (F:=F) (b:=y.2) (g:=g) (m:=d.1.m) (s:=n.1) (c:=c.1) (Y:=y.1))) ?_
 generalize F.rt y.2 (n.1,6,())=l
 refine M0g.pre (A0a hG (wq25 (F:=F) (b:=l.2) (g:=g) (c:=c.1) (y:=R6.of y.1) (l:=l.1))) ?_
 refine M0g.pre ((A0a hG (wq26 (F:=F) (b:=l.2) (g:=g) (c:=c.1) (y:=R6.of y.1) (l:=l.1) (chi:=0))).seq (meLE (hG:=hG) (b:=(F.so l.2 (l.1,R6.of y.1,6,())).2) (g:=g) (c:=c.1) (y:=R6.of y.1) (l:=l.1) (u:=(F.so l.2 (l.1,R6.of y.1,6,())).1) (chi:=0))) ?_
 generalize F.so l.2 (l.1,R6.of y.1,6,())=u
 exact W2x hG g c.1 (R6.of y.1) l.1 _
end
theorem C3a:Tryz.prog.funcs[21]?=some Tryz.f21:=by kernel_rfl
theorem L4c{F:GOps}(hG:GamOk Tryz.prog (eE F).gam):A0h Tryz.prog 21 (S 57 (K0r F)):=by
 intro args cs r cs' h
 obtain ⟨b,a,rfl,rfl,rfl,rfl⟩:=C2y h
 have hr:=L2b hG b a
 obtain ⟨g,sky,body,u⟩:=a
 rcases hr with hr | hr
 ·refine E0k C3a T4d wN (by show 4≤248;omega) (by simp[row]) rfl rfl rfl (.inr rfl) hr (wRes ..) rfl rfl (fun b' c hb=>?_) rfl rfl
  match b',hb with
  | 0,hb=>cases hb;rfl
  | n+1,hb=>simp[row]at hb
 ·refine E0k C3a T4d wN (by show 4≤248;omega) (by simp[row]) rfl rfl rfl (.inr rfl) hr (T5t ..) rfl rfl (fun b' c hb=>?_) rfl rfl
  match b',hb with
  | 0,hb=>cases hb;rfl
  | n+1,hb=>simp[row]at hb
end Go.Ab
