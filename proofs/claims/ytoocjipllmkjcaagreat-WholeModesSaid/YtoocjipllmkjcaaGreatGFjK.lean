/- A part of the proofs: lemmas, no statement of their own; no condition. -/
import Derived.Test.YtoocjipllmkjcaaGreatFjG
import Derived.Test.YtoocjipllmkjcaaGreatFjH
import Derived.Test.YtoocjipllmkjcaaGreatFjI
import Derived.Test.YtoocjipllmkjcaaGreatFjJ
import Derived.Test.YtoocjipllmkjcaaGreatGBeA
namespace Go.Ab
open Go Go.Proofs
structure GCB where
 g:Gs
 chi:Int
 ok:Bool
instance:Cod GCB where
 enc x:=.tuple #[Cod.enc x.g,.int .i64 x.chi,.bool x.ok]
 dec v:=match v with
  | .tuple ⟨[g,.int .i64 c,.bool o]⟩=>match Cod.dec g with | some x=>some ⟨x,c,o⟩ | none=>none
  | _=>none
 law v x h:=by
  split at h
  ·split at h
   ·rename_i h1
    cases h
    rw[Cod.law _ _ h1]
   ·cases h
  ·cases h
def meFA(F:GOps)(i:Nat)(z:(P2×P2)×Bool):(P2×P2)×Bool:=match i with | 0=>meA0 F z.1.1 z.1.2 z.2 | _=>meA1 F z.1.1 z.1.2 z.2
def meFB(F:GOps)(q:V4)(sky:P2)(x:X13)(k:Nat)(z:Mx×Bool):Mx×Bool:=(setX z.1 k (meB F q sky (x.row k) z.2).1,(meB F q sky (x.row k) z.2).2)
def meFD(F:GOps)(m:R6)(i:Nat)(z:(Nat→Int)×Bool):(Nat→Int)×Bool:=(setR z.1 i (F.o.sub z.2 (z.1 i) (m.at i)).1,(F.o.sub z.2 (z.1 i) (m.at i)).2)
def meFE(F:GOps)(y u:R6)(i:Nat)(z:Int×Bool):Int×Bool:=meE F z.1 (y.at i) (u.at i) z.2
def meFF(F:GOps)(l c:M6)(i:Nat)(z:Mx×Bool):Mx×Bool:=(setX z.1 i (F.so z.2 (l,c.row i,6,())).1,(F.so z.2 (l,c.row i,6,())).2)
def meFJ(F:GOps)(P k c:Mx)(i j:Nat)(z:Mx×Bool):Mx×Bool:=(setM z.1 i j (meT F P k c i j z.2).1,(meT F P k c i j z.2).2)
def meFG(F:GOps)(P k c:Mx)(i:Nat)(z:Mx×Bool):Mx×Bool:=iterF (meFJ F P k c i) 0 6 z
def meFH(F:GOps)(T:Mx)(i:Nat)(z:Mx×Bool):Mx×Bool:=meH F.o T i 0 6 z
section
variable {F:GOps} (hG:GamOk Tryz.prog (eE F).gam) (b:Bool) (g:Gs) (sky body:P2) (x:X13) (Z:Mx) (m y u:R6) (s c l:M6) (Y:Nat→Int) (chi:Int) (k T p:Mx)
include hG
theorem meLA_r0(z:(P2×P2)×Bool):RunsTo Tryz.prog 248 wA (wSA 0 g z.1.1 z.1.2 z.2) .normal (wSA 1 g (meFA F 0 z).1.1 (meFA F 0 z).1.2 (meFA F 0 z).2):=gCut_runs hG (wqA_0 (F:=F) (b:=z.2) (g:=g) (sky:=z.1.1) (body:=z.1.2)) (lo_wSA ..) (ok_wSA ..) rfl
theorem meLA_r1(z:(P2×P2)×Bool):RunsTo Tryz.prog 248 wA (wSA 1 g z.1.1 z.1.2 z.2) .normal (wSA 2 g (meFA F 1 z).1.1 (meFA F 1 z).1.2 (meFA F 1 z).2):=gCut_runs hG (wqA_1 (F:=F) (b:=z.2) (g:=g) (sky:=z.1.1) (body:=z.1.2)) (lo_wSA ..) (ok_wSA ..) rfl
theorem meLA_r2(z:(P2×P2)×Bool):RunsTo Tryz.prog 248 wA (wSA 2 g z.1.1 z.1.2 z.2) (.exit 0) (wS0 g z.1.1 z.1.2 z.2):=gCut_runs hG (wqA_2 (F:=F) (b:=z.2) (g:=g) (sky:=z.1.1) (body:=z.1.2)) (lo_wSA ..) (ok_wS0 ..) rfl
theorem meLA:RunsTo Tryz.prog 248 (.block 0 (.loop wA)) (wSA 0 g ((sky,body),b).1.1 ((sky,body),b).1.2 ((sky,body),b).2) .normal (wS0 g (iterF (meFA F) 0 2 ((sky,body),b)).1.1 (iterF (meFA F) 0 2 ((sky,body),b)).1.2 (iterF (meFA F) 0 2 ((sky,body),b)).2) :=
 RunsTo.rounds (P:=Tryz.prog) (N:=248) (c:=wA) (id:=0) 2 (fun i z=>wSA i g z.1.1 z.1.2 z.2) (fun z=>wS0 g z.1.1 z.1.2 z.2) (meFA F)
  (fun i z=>below2 (p:=fun i=>RunsTo Tryz.prog 248 wA (wSA i g z.1.1 z.1.2 z.2) .normal (wSA (i+1:Nat) g (meFA F i z).1.1 (meFA F i z).1.2 (meFA F i z).2))
   (meLA_r0 (hG:=hG) (g:=g)   (z:=z))
   (meLA_r1 (hG:=hG) (g:=g)   (z:=z))
   i)
  (fun z=>meLA_r2 (hG:=hG) (g:=g)   (z:=z)) ((sky,body),b)
theorem meLB_r0(z:Mx×Bool):RunsTo Tryz.prog 248 wB (wSB 0 g sky body x z.1 z.2) .normal (wSB 1 g sky body x (meFB F g.q sky x 0 z).1 (meFB F g.q sky x 0 z).2):=gCut_runs hG (wqB_0 (F:=F) (b:=z.2) (g:=g) (sky:=sky) (body:=body) (x:=x) (Z:=z.1)) (lo_wSB ..) (ok_wSB ..) rfl
theorem meLB_r1(z:Mx×Bool):RunsTo Tryz.prog 248 wB (wSB 1 g sky body x z.1 z.2) .normal (wSB 2 g sky body x (meFB F g.q sky x 1 z).1 (meFB F g.q sky x 1 z).2):=gCut_runs hG (wqB_1 (F:=F) (b:=z.2) (g:=g) (sky:=sky) (body:=body) (x:=x) (Z:=z.1)) (lo_wSB ..) (ok_wSB ..) rfl
theorem meLB_r2(z:Mx×Bool):RunsTo Tryz.prog 248 wB (wSB 2 g sky body x z.1 z.2) .normal (wSB 3 g sky body x (meFB F g.q sky x 2 z).1 (meFB F g.q sky x 2 z).2):=gCut_runs hG (wqB_2 (F:=F) (b:=z.2) (g:=g) (sky:=sky) (body:=body) (x:=x) (Z:=z.1)) (lo_wSB ..) (ok_wSB ..) rfl
theorem meLB_r3(z:Mx×Bool):RunsTo Tryz.prog 248 wB (wSB 3 g sky body x z.1 z.2) .normal (wSB 4 g sky body x (meFB F g.q sky x 3 z).1 (meFB F g.q sky x 3 z).2):=gCut_runs hG (wqB_3 (F:=F) (b:=z.2) (g:=g) (sky:=sky) (body:=body) (x:=x) (Z:=z.1)) (lo_wSB ..) (ok_wSB ..) rfl
theorem meLB_r4(z:Mx×Bool):RunsTo Tryz.prog 248 wB (wSB 4 g sky body x z.1 z.2) .normal (wSB 5 g sky body x (meFB F g.q sky x 4 z).1 (meFB F g.q sky x 4 z).2):=gCut_runs hG (wqB_4 (F:=F) (b:=z.2) (g:=g) (sky:=sky) (body:=body) (x:=x) (Z:=z.1)) (lo_wSB ..) (ok_wSB ..) rfl
theorem meLB_r5(z:Mx×Bool):RunsTo Tryz.prog 248 wB (wSB 5 g sky body x z.1 z.2) .normal (wSB 6 g sky body x (meFB F g.q sky x 5 z).1 (meFB F g.q sky x 5 z).2):=gCut_runs hG (wqB_5 (F:=F) (b:=z.2) (g:=g) (sky:=sky) (body:=body) (x:=x) (Z:=z.1)) (lo_wSB ..) (ok_wSB ..) rfl
theorem meLB_r6(z:Mx×Bool):RunsTo Tryz.prog 248 wB (wSB 6 g sky body x z.1 z.2) .normal (wSB 7 g sky body x (meFB F g.q sky x 6 z).1 (meFB F g.q sky x 6 z).2):=gCut_runs hG (wqB_6 (F:=F) (b:=z.2) (g:=g) (sky:=sky) (body:=body) (x:=x) (Z:=z.1)) (lo_wSB ..) (ok_wSB ..) rfl
theorem meLB_r7(z:Mx×Bool):RunsTo Tryz.prog 248 wB (wSB 7 g sky body x z.1 z.2) .normal (wSB 8 g sky body x (meFB F g.q sky x 7 z).1 (meFB F g.q sky x 7 z).2):=gCut_runs hG (wqB_7 (F:=F) (b:=z.2) (g:=g) (sky:=sky) (body:=body) (x:=x) (Z:=z.1)) (lo_wSB ..) (ok_wSB ..) rfl
theorem meLB_r8(z:Mx×Bool):RunsTo Tryz.prog 248 wB (wSB 8 g sky body x z.1 z.2) .normal (wSB 9 g sky body x (meFB F g.q sky x 8 z).1 (meFB F g.q sky x 8 z).2):=gCut_runs hG (wqB_8 (F:=F) (b:=z.2) (g:=g) (sky:=sky) (body:=body) (x:=x) (Z:=z.1)) (lo_wSB ..) (ok_wSB ..) rfl
theorem meLB_r9(z:Mx×Bool):RunsTo Tryz.prog 248 wB (wSB 9 g sky body x z.1 z.2) .normal (wSB 10 g sky body x (meFB F g.q sky x 9 z).1 (meFB F g.q sky x 9 z).2):=gCut_runs hG (wqB_9 (F:=F) (b:=z.2) (g:=g) (sky:=sky) (body:=body) (x:=x) (Z:=z.1)) (lo_wSB ..) (ok_wSB ..) rfl
theorem meLB_r10(z:Mx×Bool):RunsTo Tryz.prog 248 wB (wSB 10 g sky body x z.1 z.2) .normal (wSB 11 g sky body x (meFB F g.q sky x 10 z).1 (meFB F g.q sky x 10 z).2):=gCut_runs hG (wqB_10 (F:=F) (b:=z.2) (g:=g) (sky:=sky) (body:=body) (x:=x) (Z:=z.1)) (lo_wSB ..) (ok_wSB ..) rfl
theorem meLB_r11(z:Mx×Bool):RunsTo Tryz.prog 248 wB (wSB 11 g sky body x z.1 z.2) .normal (wSB 12 g sky body x (meFB F g.q sky x 11 z).1 (meFB F g.q sky x 11 z).2):=gCut_runs hG (wqB_11 (F:=F) (b:=z.2) (g:=g) (sky:=sky) (body:=body) (x:=x) (Z:=z.1)) (lo_wSB ..) (ok_wSB ..) rfl
theorem meLB_r12(z:Mx×Bool):RunsTo Tryz.prog 248 wB (wSB 12 g sky body x z.1 z.2) .normal (wSB 13 g sky body x (meFB F g.q sky x 12 z).1 (meFB F g.q sky x 12 z).2):=gCut_runs hG (wqB_12 (F:=F) (b:=z.2) (g:=g) (sky:=sky) (body:=body) (x:=x) (Z:=z.1)) (lo_wSB ..) (ok_wSB ..) rfl
theorem meLB_r13(z:Mx×Bool):RunsTo Tryz.prog 248 wB (wSB 13 g sky body x z.1 z.2) (.exit 2) (wS7 g sky body x z.1 z.2):=gCut_runs hG (wqB_13 (F:=F) (b:=z.2) (g:=g) (sky:=sky) (body:=body) (x:=x) (Z:=z.1)) (lo_wSB ..) (ok_wS7 ..) rfl
theorem meLB:RunsTo Tryz.prog 248 (.block 2 (.loop wB)) (wSB 0 g sky body x (Z,b).1 (Z,b).2) .normal (wS7 g sky body x (iterF (meFB F g.q sky x) 0 13 (Z,b)).1 (iterF (meFB F g.q sky x) 0 13 (Z,b)).2) :=
 RunsTo.rounds (P:=Tryz.prog) (N:=248) (c:=wB) (id:=2) 13 (fun i z=>wSB i g sky body x z.1 z.2) (fun z=>wS7 g sky body x z.1 z.2) (meFB F g.q sky x)
  (fun i z=>below13 (p:=fun i=>RunsTo Tryz.prog 248 wB (wSB i g sky body x z.1 z.2) .normal (wSB (i+1:Nat) g sky body x (meFB F g.q sky x i z).1 (meFB F g.q sky x i z).2))
   (meLB_r0 (hG:=hG) (g:=g) (sky:=sky) (body:=body) (x:=x)  (z:=z))
   (meLB_r1 (hG:=hG) (g:=g) (sky:=sky) (body:=body) (x:=x)  (z:=z))
   (meLB_r2 (hG:=hG) (g:=g) (sky:=sky) (body:=body) (x:=x)  (z:=z))
   (meLB_r3 (hG:=hG) (g:=g) (sky:=sky) (body:=body) (x:=x)  (z:=z))
   (meLB_r4 (hG:=hG) (g:=g) (sky:=sky) (body:=body) (x:=x)  (z:=z))
   (meLB_r5 (hG:=hG) (g:=g) (sky:=sky) (body:=body) (x:=x)  (z:=z))
   (meLB_r6 (hG:=hG) (g:=g) (sky:=sky) (body:=body) (x:=x)  (z:=z))
   (meLB_r7 (hG:=hG) (g:=g) (sky:=sky) (body:=body) (x:=x)  (z:=z))
   (meLB_r8 (hG:=hG) (g:=g) (sky:=sky) (body:=body) (x:=x)  (z:=z))
   (meLB_r9 (hG:=hG) (g:=g) (sky:=sky) (body:=body) (x:=x)  (z:=z))
   (meLB_r10 (hG:=hG) (g:=g) (sky:=sky) (body:=body) (x:=x)  (z:=z))
   (meLB_r11 (hG:=hG) (g:=g) (sky:=sky) (body:=body) (x:=x)  (z:=z))
   (meLB_r12 (hG:=hG) (g:=g) (sky:=sky) (body:=body) (x:=x)  (z:=z))
   i)
  (fun z=>meLB_r13 (hG:=hG) (g:=g) (sky:=sky) (body:=body) (x:=x)  (z:=z)) (Z,b)
theorem meLD_r0(z:(Nat→Int)×Bool):RunsTo Tryz.prog 248 wD (wSD 0 g m s c z.1 z.2) .normal (wSD 1 g m s c (meFD F m 0 z).1 (meFD F m 0 z).2):=gCut_runs hG (wqD_0 (F:=F) (b:=z.2) (g:=g) (m:=m) (s:=s) (c:=c) (Y:=z.1)) (lo_wSD ..) (ok_wSD ..) rfl
theorem meLD_r1(z:(Nat→Int)×Bool):RunsTo Tryz.prog 248 wD (wSD 1 g m s c z.1 z.2) .normal (wSD 2 g m s c (meFD F m 1 z).1 (meFD F m 1 z).2):=gCut_runs hG (wqD_1 (F:=F) (b:=z.2) (g:=g) (m:=m) (s:=s) (c:=c) (Y:=z.1)) (lo_wSD ..) (ok_wSD ..) rfl
theorem meLD_r2(z:(Nat→Int)×Bool):RunsTo Tryz.prog 248 wD (wSD 2 g m s c z.1 z.2) .normal (wSD 3 g m s c (meFD F m 2 z).1 (meFD F m 2 z).2):=gCut_runs hG (wqD_2 (F:=F) (b:=z.2) (g:=g) (m:=m) (s:=s) (c:=c) (Y:=z.1)) (lo_wSD ..) (ok_wSD ..) rfl
theorem meLD_r3(z:(Nat→Int)×Bool):RunsTo Tryz.prog 248 wD (wSD 3 g m s c z.1 z.2) .normal (wSD 4 g m s c (meFD F m 3 z).1 (meFD F m 3 z).2):=gCut_runs hG (wqD_3 (F:=F) (b:=z.2) (g:=g) (m:=m) (s:=s) (c:=c) (Y:=z.1)) (lo_wSD ..) (ok_wSD ..) rfl
theorem meLD_r4(z:(Nat→Int)×Bool):RunsTo Tryz.prog 248 wD (wSD 4 g m s c z.1 z.2) .normal (wSD 5 g m s c (meFD F m 4 z).1 (meFD F m 4 z).2):=gCut_runs hG (wqD_4 (F:=F) (b:=z.2) (g:=g) (m:=m) (s:=s) (c:=c) (Y:=z.1)) (lo_wSD ..) (ok_wSD ..) rfl
theorem meLD_r5(z:(Nat→Int)×Bool):RunsTo Tryz.prog 248 wD (wSD 5 g m s c z.1 z.2) .normal (wSD 6 g m s c (meFD F m 5 z).1 (meFD F m 5 z).2):=gCut_runs hG (wqD_5 (F:=F) (b:=z.2) (g:=g) (m:=m) (s:=s) (c:=c) (Y:=z.1)) (lo_wSD ..) (ok_wSD ..) rfl
theorem meLD_r6(z:(Nat→Int)×Bool):RunsTo Tryz.prog 248 wD (wSD 6 g m s c z.1 z.2) (.exit 4) (wS18 g m s c z.1 z.2):=gCut_runs hG (wqD_6 (F:=F) (b:=z.2) (g:=g) (m:=m) (s:=s) (c:=c) (Y:=z.1)) (lo_wSD ..) (ok_wS18 ..) rfl
theorem meLD:RunsTo Tryz.prog 248 (.block 4 (.loop wD)) (wSD 0 g m s c (Y,b).1 (Y,b).2) .normal (wS18 g m s c (iterF (meFD F m) 0 6 (Y,b)).1 (iterF (meFD F m) 0 6 (Y,b)).2) :=
 RunsTo.rounds (P:=Tryz.prog) (N:=248) (c:=wD) (id:=4) 6 (fun i z=>wSD i g m s c z.1 z.2) (fun z=>wS18 g m s c z.1 z.2) (meFD F m)
  (fun i z=>below6 (p:=fun i=>RunsTo Tryz.prog 248 wD (wSD i g m s c z.1 z.2) .normal (wSD (i+1:Nat) g m s c (meFD F m i z).1 (meFD F m i z).2))
   (meLD_r0 (hG:=hG) (g:=g) (m:=m) (s:=s) (c:=c)  (z:=z))
   (meLD_r1 (hG:=hG) (g:=g) (m:=m) (s:=s) (c:=c)  (z:=z))
   (meLD_r2 (hG:=hG) (g:=g) (m:=m) (s:=s) (c:=c)  (z:=z))
   (meLD_r3 (hG:=hG) (g:=g) (m:=m) (s:=s) (c:=c)  (z:=z))
   (meLD_r4 (hG:=hG) (g:=g) (m:=m) (s:=s) (c:=c)  (z:=z))
   (meLD_r5 (hG:=hG) (g:=g) (m:=m) (s:=s) (c:=c)  (z:=z))
   i)
  (fun z=>meLD_r6 (hG:=hG) (g:=g) (m:=m) (s:=s) (c:=c)  (z:=z)) (Y,b)
theorem meLE_r0(z:Int×Bool):RunsTo Tryz.prog 248 wE (wSE 0 g c y l u z.1 z.2) .normal (wSE 1 g c y l u (meFE F y u 0 z).1 (meFE F y u 0 z).2):=gCut_runs hG (wqE_0 (F:=F) (b:=z.2) (g:=g) (y:=y) (u:=u) (c:=c) (l:=l) (chi:=z.1)) (lo_wSE ..) (ok_wSE ..) rfl
theorem meLE_r1(z:Int×Bool):RunsTo Tryz.prog 248 wE (wSE 1 g c y l u z.1 z.2) .normal (wSE 2 g c y l u (meFE F y u 1 z).1 (meFE F y u 1 z).2):=gCut_runs hG (wqE_1 (F:=F) (b:=z.2) (g:=g) (y:=y) (u:=u) (c:=c) (l:=l) (chi:=z.1)) (lo_wSE ..) (ok_wSE ..) rfl
theorem meLE_r2(z:Int×Bool):RunsTo Tryz.prog 248 wE (wSE 2 g c y l u z.1 z.2) .normal (wSE 3 g c y l u (meFE F y u 2 z).1 (meFE F y u 2 z).2):=gCut_runs hG (wqE_2 (F:=F) (b:=z.2) (g:=g) (y:=y) (u:=u) (c:=c) (l:=l) (chi:=z.1)) (lo_wSE ..) (ok_wSE ..) rfl
theorem meLE_r3(z:Int×Bool):RunsTo Tryz.prog 248 wE (wSE 3 g c y l u z.1 z.2) .normal (wSE 4 g c y l u (meFE F y u 3 z).1 (meFE F y u 3 z).2):=gCut_runs hG (wqE_3 (F:=F) (b:=z.2) (g:=g) (y:=y) (u:=u) (c:=c) (l:=l) (chi:=z.1)) (lo_wSE ..) (ok_wSE ..) rfl
theorem meLE_r4(z:Int×Bool):RunsTo Tryz.prog 248 wE (wSE 4 g c y l u z.1 z.2) .normal (wSE 5 g c y l u (meFE F y u 4 z).1 (meFE F y u 4 z).2):=gCut_runs hG (wqE_4 (F:=F) (b:=z.2) (g:=g) (y:=y) (u:=u) (c:=c) (l:=l) (chi:=z.1)) (lo_wSE ..) (ok_wSE ..) rfl
theorem meLE_r5(z:Int×Bool):RunsTo Tryz.prog 248 wE (wSE 5 g c y l u z.1 z.2) .normal (wSE 6 g c y l u (meFE F y u 5 z).1 (meFE F y u 5 z).2):=gCut_runs hG (wqE_5 (F:=F) (b:=z.2) (g:=g) (y:=y) (u:=u) (c:=c) (l:=l) (chi:=z.1)) (lo_wSE ..) (ok_wSE ..) rfl
theorem meLE_r6(z:Int×Bool):RunsTo Tryz.prog 248 wE (wSE 6 g c y l u z.1 z.2) (.exit 6) (wS25 g c y l z.1 z.2):=gCut_runs hG (wqE_6 (F:=F) (b:=z.2) (g:=g) (y:=y) (u:=u) (c:=c) (l:=l) (chi:=z.1)) (lo_wSE ..) (ok_wS25 ..) rfl
theorem meLE:RunsTo Tryz.prog 248 (.block 6 (.loop wE)) (wSE 0 g c y l u (chi,b).1 (chi,b).2) .normal (wS25 g c y l (iterF (meFE F y u) 0 6 (chi,b)).1 (iterF (meFE F y u) 0 6 (chi,b)).2) :=
 RunsTo.rounds (P:=Tryz.prog) (N:=248) (c:=wE) (id:=6) 6 (fun i z=>wSE i g c y l u z.1 z.2) (fun z=>wS25 g c y l z.1 z.2) (meFE F y u)
  (fun i z=>below6 (p:=fun i=>RunsTo Tryz.prog 248 wE (wSE i g c y l u z.1 z.2) .normal (wSE (i+1:Nat) g c y l u (meFE F y u i z).1 (meFE F y u i z).2))
   (meLE_r0 (hG:=hG) (g:=g) (y:=y) (u:=u) (c:=c) (l:=l)  (z:=z))
   (meLE_r1 (hG:=hG) (g:=g) (y:=y) (u:=u) (c:=c) (l:=l)  (z:=z))
   (meLE_r2 (hG:=hG) (g:=g) (y:=y) (u:=u) (c:=c) (l:=l)  (z:=z))
   (meLE_r3 (hG:=hG) (g:=g) (y:=y) (u:=u) (c:=c) (l:=l)  (z:=z))
   (meLE_r4 (hG:=hG) (g:=g) (y:=y) (u:=u) (c:=c) (l:=l)  (z:=z))
   (meLE_r5 (hG:=hG) (g:=g) (y:=y) (u:=u) (c:=c) (l:=l)  (z:=z))
   i)
  (fun z=>meLE_r6 (hG:=hG) (g:=g) (y:=y) (u:=u) (c:=c) (l:=l)  (z:=z)) (chi,b)
theorem meLF_r0(z:Mx×Bool):RunsTo Tryz.prog 248 wF (wSF 0 g c y l chi z.1 T p z.2) .normal (wSF 1 g c y l chi (meFF F l c 0 z).1 T p (meFF F l c 0 z).2):=gCut_runs hG (wqF_0 (F:=F) (b:=z.2) (g:=g) (y:=y) (c:=c) (l:=l) (chi:=chi) (k:=z.1) (T:=T) (p:=p)) (lo_wSF ..) (ok_wSF ..) rfl
theorem meLF_r1(z:Mx×Bool):RunsTo Tryz.prog 248 wF (wSF 1 g c y l chi z.1 T p z.2) .normal (wSF 2 g c y l chi (meFF F l c 1 z).1 T p (meFF F l c 1 z).2):=gCut_runs hG (wqF_1 (F:=F) (b:=z.2) (g:=g) (y:=y) (c:=c) (l:=l) (chi:=chi) (k:=z.1) (T:=T) (p:=p)) (lo_wSF ..) (ok_wSF ..) rfl
theorem meLF_r2(z:Mx×Bool):RunsTo Tryz.prog 248 wF (wSF 2 g c y l chi z.1 T p z.2) .normal (wSF 3 g c y l chi (meFF F l c 2 z).1 T p (meFF F l c 2 z).2):=gCut_runs hG (wqF_2 (F:=F) (b:=z.2) (g:=g) (y:=y) (c:=c) (l:=l) (chi:=chi) (k:=z.1) (T:=T) (p:=p)) (lo_wSF ..) (ok_wSF ..) rfl
theorem meLF_r3(z:Mx×Bool):RunsTo Tryz.prog 248 wF (wSF 3 g c y l chi z.1 T p z.2) .normal (wSF 4 g c y l chi (meFF F l c 3 z).1 T p (meFF F l c 3 z).2):=gCut_runs hG (wqF_3 (F:=F) (b:=z.2) (g:=g) (y:=y) (c:=c) (l:=l) (chi:=chi) (k:=z.1) (T:=T) (p:=p)) (lo_wSF ..) (ok_wSF ..) rfl
theorem meLF_r4(z:Mx×Bool):RunsTo Tryz.prog 248 wF (wSF 4 g c y l chi z.1 T p z.2) .normal (wSF 5 g c y l chi (meFF F l c 4 z).1 T p (meFF F l c 4 z).2):=gCut_runs hG (wqF_4 (F:=F) (b:=z.2) (g:=g) (y:=y) (c:=c) (l:=l) (chi:=chi) (k:=z.1) (T:=T) (p:=p)) (lo_wSF ..) (ok_wSF ..) rfl
theorem meLF_r5(z:Mx×Bool):RunsTo Tryz.prog 248 wF (wSF 5 g c y l chi z.1 T p z.2) .normal (wSF 6 g c y l chi (meFF F l c 5 z).1 T p (meFF F l c 5 z).2):=gCut_runs hG (wqF_5 (F:=F) (b:=z.2) (g:=g) (y:=y) (c:=c) (l:=l) (chi:=chi) (k:=z.1) (T:=T) (p:=p)) (lo_wSF ..) (ok_wSF ..) rfl
theorem meLF_r6(z:Mx×Bool):RunsTo Tryz.prog 248 wF (wSF 6 g c y l chi z.1 T p z.2) (.exit 8) (wS35 g c y l chi z.1 T p z.2):=gCut_runs hG (wqF_6 (F:=F) (b:=z.2) (g:=g) (y:=y) (c:=c) (l:=l) (chi:=chi) (k:=z.1) (T:=T) (p:=p)) (lo_wSF ..) (ok_wS35 ..) rfl
theorem meLF:RunsTo Tryz.prog 248 (.block 8 (.loop wF)) (wSF 0 g c y l chi (k,b).1 T p (k,b).2) .normal (wS35 g c y l chi (iterF (meFF F l c) 0 6 (k,b)).1 T p (iterF (meFF F l c) 0 6 (k,b)).2) :=
 RunsTo.rounds (P:=Tryz.prog) (N:=248) (c:=wF) (id:=8) 6 (fun i z=>wSF i g c y l chi z.1 T p z.2) (fun z=>wS35 g c y l chi z.1 T p z.2) (meFF F l c)
  (fun i z=>below6 (p:=fun i=>RunsTo Tryz.prog 248 wF (wSF i g c y l chi z.1 T p z.2) .normal (wSF (i+1:Nat) g c y l chi (meFF F l c i z).1 T p (meFF F l c i z).2))
   (meLF_r0 (hG:=hG) (g:=g) (y:=y) (c:=c) (l:=l) (chi:=chi)  (T:=T) (p:=p) (z:=z))
   (meLF_r1 (hG:=hG) (g:=g) (y:=y) (c:=c) (l:=l) (chi:=chi)  (T:=T) (p:=p) (z:=z))
   (meLF_r2 (hG:=hG) (g:=g) (y:=y) (c:=c) (l:=l) (chi:=chi)  (T:=T) (p:=p) (z:=z))
   (meLF_r3 (hG:=hG) (g:=g) (y:=y) (c:=c) (l:=l) (chi:=chi)  (T:=T) (p:=p) (z:=z))
   (meLF_r4 (hG:=hG) (g:=g) (y:=y) (c:=c) (l:=l) (chi:=chi)  (T:=T) (p:=p) (z:=z))
   (meLF_r5 (hG:=hG) (g:=g) (y:=y) (c:=c) (l:=l) (chi:=chi)  (T:=T) (p:=p) (z:=z))
   i)
  (fun z=>meLF_r6 (hG:=hG) (g:=g) (y:=y) (c:=c) (l:=l) (chi:=chi)  (T:=T) (p:=p) (z:=z)) (k,b)
theorem meLH_r0(z:Mx×Bool):RunsTo Tryz.prog 248 wH (wSH 0 g c y l chi k T z.1 z.2) .normal (wSH 1 g c y l chi k T (meFH F T 0 z).1 (meFH F T 0 z).2):=gCut_runs hG (wqH_0 (F:=F) (b:=z.2) (g:=g) (y:=y) (c:=c) (l:=l) (chi:=chi) (k:=k) (T:=T) (p:=z.1)) (lo_wSH ..) (ok_wSH ..) rfl
theorem meLH_r1(z:Mx×Bool):RunsTo Tryz.prog 248 wH (wSH 1 g c y l chi k T z.1 z.2) .normal (wSH 2 g c y l chi k T (meFH F T 1 z).1 (meFH F T 1 z).2):=gCut_runs hG (wqH_1 (F:=F) (b:=z.2) (g:=g) (y:=y) (c:=c) (l:=l) (chi:=chi) (k:=k) (T:=T) (p:=z.1)) (lo_wSH ..) (ok_wSH ..) rfl
theorem meLH_r2(z:Mx×Bool):RunsTo Tryz.prog 248 wH (wSH 2 g c y l chi k T z.1 z.2) .normal (wSH 3 g c y l chi k T (meFH F T 2 z).1 (meFH F T 2 z).2):=gCut_runs hG (wqH_2 (F:=F) (b:=z.2) (g:=g) (y:=y) (c:=c) (l:=l) (chi:=chi) (k:=k) (T:=T) (p:=z.1)) (lo_wSH ..) (ok_wSH ..) rfl
theorem meLH_r3(z:Mx×Bool):RunsTo Tryz.prog 248 wH (wSH 3 g c y l chi k T z.1 z.2) .normal (wSH 4 g c y l chi k T (meFH F T 3 z).1 (meFH F T 3 z).2):=gCut_runs hG (wqH_3 (F:=F) (b:=z.2) (g:=g) (y:=y) (c:=c) (l:=l) (chi:=chi) (k:=k) (T:=T) (p:=z.1)) (lo_wSH ..) (ok_wSH ..) rfl
theorem meLH_r4(z:Mx×Bool):RunsTo Tryz.prog 248 wH (wSH 4 g c y l chi k T z.1 z.2) .normal (wSH 5 g c y l chi k T (meFH F T 4 z).1 (meFH F T 4 z).2):=gCut_runs hG (wqH_4 (F:=F) (b:=z.2) (g:=g) (y:=y) (c:=c) (l:=l) (chi:=chi) (k:=k) (T:=T) (p:=z.1)) (lo_wSH ..) (ok_wSH ..) rfl
theorem meLH_r5(z:Mx×Bool):RunsTo Tryz.prog 248 wH (wSH 5 g c y l chi k T z.1 z.2) .normal (wSH 6 g c y l chi k T (meFH F T 5 z).1 (meFH F T 5 z).2):=gCut_runs hG (wqH_5 (F:=F) (b:=z.2) (g:=g) (y:=y) (c:=c) (l:=l) (chi:=chi) (k:=k) (T:=T) (p:=z.1)) (lo_wSH ..) (ok_wSH ..) rfl
theorem meLH_r6(z:Mx×Bool):RunsTo Tryz.prog 248 wH (wSH 6 g c y l chi k T z.1 z.2) (.exit 16) (wS35 g c y l chi k T z.1 z.2):=gCut_runs hG (wqH_6 (F:=F) (b:=z.2) (g:=g) (y:=y) (c:=c) (l:=l) (chi:=chi) (k:=k) (T:=T) (p:=z.1)) (lo_wSH ..) (ok_wS35 ..) rfl
theorem meLH:RunsTo Tryz.prog 248 (.block 16 (.loop wH)) (wSH 0 g c y l chi k T (p,b).1 (p,b).2) .normal (wS35 g c y l chi k T (iterF (meFH F T) 0 6 (p,b)).1 (iterF (meFH F T) 0 6 (p,b)).2) :=
 RunsTo.rounds (P:=Tryz.prog) (N:=248) (c:=wH) (id:=16) 6 (fun i z=>wSH i g c y l chi k T z.1 z.2) (fun z=>wS35 g c y l chi k T z.1 z.2) (meFH F T)
  (fun i z=>below6 (p:=fun i=>RunsTo Tryz.prog 248 wH (wSH i g c y l chi k T z.1 z.2) .normal (wSH (i+1:Nat) g c y l chi k T (meFH F T i z).1 (meFH F T i z).2))
   (meLH_r0 (hG:=hG) (g:=g) (y:=y) (c:=c) (l:=l) (chi:=chi) (k:=k) (T:=T)  (z:=z))
   (meLH_r1 (hG:=hG) (g:=g) (y:=y) (c:=c) (l:=l) (chi:=chi) (k:=k) (T:=T)  (z:=z))
   (meLH_r2 (hG:=hG) (g:=g) (y:=y) (c:=c) (l:=l) (chi:=chi) (k:=k) (T:=T)  (z:=z))
   (meLH_r3 (hG:=hG) (g:=g) (y:=y) (c:=c) (l:=l) (chi:=chi) (k:=k) (T:=T)  (z:=z))
   (meLH_r4 (hG:=hG) (g:=g) (y:=y) (c:=c) (l:=l) (chi:=chi) (k:=k) (T:=T)  (z:=z))
   (meLH_r5 (hG:=hG) (g:=g) (y:=y) (c:=c) (l:=l) (chi:=chi) (k:=k) (T:=T)  (z:=z))
   i)
  (fun z=>meLH_r6 (hG:=hG) (g:=g) (y:=y) (c:=c) (l:=l) (chi:=chi) (k:=k) (T:=T)  (z:=z)) (p,b)
theorem meLJ_0_r0(z:Mx×Bool):RunsTo Tryz.prog 248 wGL (wSJ 0 0 g c y l chi k z.1 p z.2) .normal (wSJ 0 1 g c y l chi k (meFJ F g.p.at k c.at 0 0 z).1 p (meFJ F g.p.at k c.at 0 0 z).2):=gCut_runs hG (wqJ_0_0 (F:=F) (b:=z.2) (g:=g) (y:=y) (c:=c) (l:=l) (chi:=chi) (k:=k) (T:=z.1) (p:=p)) (lo_wSJ ..) (ok_wSJ ..) rfl
theorem meLJ_0_r1(z:Mx×Bool):RunsTo Tryz.prog 248 wGL (wSJ 0 1 g c y l chi k z.1 p z.2) .normal (wSJ 0 2 g c y l chi k (meFJ F g.p.at k c.at 0 1 z).1 p (meFJ F g.p.at k c.at 0 1 z).2):=gCut_runs hG (wqJ_0_1 (F:=F) (b:=z.2) (g:=g) (y:=y) (c:=c) (l:=l) (chi:=chi) (k:=k) (T:=z.1) (p:=p)) (lo_wSJ ..) (ok_wSJ ..) rfl
theorem meLJ_0_r2(z:Mx×Bool):RunsTo Tryz.prog 248 wGL (wSJ 0 2 g c y l chi k z.1 p z.2) .normal (wSJ 0 3 g c y l chi k (meFJ F g.p.at k c.at 0 2 z).1 p (meFJ F g.p.at k c.at 0 2 z).2):=gCut_runs hG (wqJ_0_2 (F:=F) (b:=z.2) (g:=g) (y:=y) (c:=c) (l:=l) (chi:=chi) (k:=k) (T:=z.1) (p:=p)) (lo_wSJ ..) (ok_wSJ ..) rfl
theorem meLJ_0_r3(z:Mx×Bool):RunsTo Tryz.prog 248 wGL (wSJ 0 3 g c y l chi k z.1 p z.2) .normal (wSJ 0 4 g c y l chi k (meFJ F g.p.at k c.at 0 3 z).1 p (meFJ F g.p.at k c.at 0 3 z).2):=gCut_runs hG (wqJ_0_3 (F:=F) (b:=z.2) (g:=g) (y:=y) (c:=c) (l:=l) (chi:=chi) (k:=k) (T:=z.1) (p:=p)) (lo_wSJ ..) (ok_wSJ ..) rfl
theorem meLJ_0_r4(z:Mx×Bool):RunsTo Tryz.prog 248 wGL (wSJ 0 4 g c y l chi k z.1 p z.2) .normal (wSJ 0 5 g c y l chi k (meFJ F g.p.at k c.at 0 4 z).1 p (meFJ F g.p.at k c.at 0 4 z).2):=gCut_runs hG (wqJ_0_4 (F:=F) (b:=z.2) (g:=g) (y:=y) (c:=c) (l:=l) (chi:=chi) (k:=k) (T:=z.1) (p:=p)) (lo_wSJ ..) (ok_wSJ ..) rfl
theorem meLJ_0_r5(z:Mx×Bool):RunsTo Tryz.prog 248 wGL (wSJ 0 5 g c y l chi k z.1 p z.2) .normal (wSJ 0 6 g c y l chi k (meFJ F g.p.at k c.at 0 5 z).1 p (meFJ F g.p.at k c.at 0 5 z).2):=gCut_runs hG (wqJ_0_5 (F:=F) (b:=z.2) (g:=g) (y:=y) (c:=c) (l:=l) (chi:=chi) (k:=k) (T:=z.1) (p:=p)) (lo_wSJ ..) (ok_wSJ ..) rfl
theorem meLJ_0_r6(z:Mx×Bool):RunsTo Tryz.prog 248 wGL (wSJ 0 6 g c y l chi k z.1 p z.2) (.exit 12) (wSG 0 g c y l chi k z.1 p z.2):=gCut_runs hG (wqJ_0_6 (F:=F) (b:=z.2) (g:=g) (y:=y) (c:=c) (l:=l) (chi:=chi) (k:=k) (T:=z.1) (p:=p)) (lo_wSJ ..) (ok_wSG ..) rfl
theorem meLJ_0:RunsTo Tryz.prog 248 (.block 12 (.loop wGL)) (wSJ 0 0 g c y l chi k (T,b).1 p (T,b).2) .normal (wSG 0 g c y l chi k (iterF (meFJ F g.p.at k c.at 0) 0 6 (T,b)).1 p (iterF (meFJ F g.p.at k c.at 0) 0 6 (T,b)).2) :=
 RunsTo.rounds (P:=Tryz.prog) (N:=248) (c:=wGL) (id:=12) 6 (fun i z=>wSJ 0 i g c y l chi k z.1 p z.2) (fun z=>wSG 0 g c y l chi k z.1 p z.2) (meFJ F g.p.at k c.at 0)
  (fun i z=>below6 (p:=fun i=>RunsTo Tryz.prog 248 wGL (wSJ 0 i g c y l chi k z.1 p z.2) .normal (wSJ 0 (i+1:Nat) g c y l chi k (meFJ F g.p.at k c.at 0 i z).1 p (meFJ F g.p.at k c.at 0 i z).2))
   (meLJ_0_r0 (hG:=hG) (g:=g) (y:=y) (c:=c) (l:=l) (chi:=chi) (k:=k)  (p:=p) (z:=z))
   (meLJ_0_r1 (hG:=hG) (g:=g) (y:=y) (c:=c) (l:=l) (chi:=chi) (k:=k)  (p:=p) (z:=z))
   (meLJ_0_r2 (hG:=hG) (g:=g) (y:=y) (c:=c) (l:=l) (chi:=chi) (k:=k)  (p:=p) (z:=z))
   (meLJ_0_r3 (hG:=hG) (g:=g) (y:=y) (c:=c) (l:=l) (chi:=chi) (k:=k)  (p:=p) (z:=z))
   (meLJ_0_r4 (hG:=hG) (g:=g) (y:=y) (c:=c) (l:=l) (chi:=chi) (k:=k)  (p:=p) (z:=z))
   (meLJ_0_r5 (hG:=hG) (g:=g) (y:=y) (c:=c) (l:=l) (chi:=chi) (k:=k)  (p:=p) (z:=z))
   i)
  (fun z=>meLJ_0_r6 (hG:=hG) (g:=g) (y:=y) (c:=c) (l:=l) (chi:=chi) (k:=k)  (p:=p) (z:=z)) (T,b)
theorem meG_0:RunsTo Tryz.prog 248 wG (wSG 0 g c y l chi k T p b) .normal (wSG 1 g c y l chi k (meFG F g.p.at k c.at 0 (T,b)).1 p (meFG F g.p.at k c.at 0 (T,b)).2):=by
 rw[wG_is]
 have h:=(gRun_runs hG (wqGc_0 (F:=F) (b:=b) (g:=g) (y:=y) (c:=c) (l:=l) (chi:=chi) (k:=k) (T:=T) (p:=p))).seq ((gRun_runs hG (wqGd_0 (F:=F) (b:=b) (g:=g) (y:=y) (c:=c) (l:=l) (chi:=chi) (k:=k) (T:=T) (p:=p))).seq (meLJ_0 hG b g y c l chi k T p))
 unfold meFG
 generalize iterF (meFJ F g.p.at k c.at 0) 0 6 (T,b)=z at h ⊢
 exact (gRun_runs hG (wqGa_0 (F:=F) (b:=b) (g:=g) (y:=y) (c:=c) (l:=l) (chi:=chi) (k:=k) (T:=T) (p:=p))).seq ((gRun_runs hG (wqGb_0 (F:=F) (b:=b) (g:=g) (y:=y) (c:=c) (l:=l) (chi:=chi) (k:=k) (T:=T) (p:=p))).seq ((h.block (.inl rfl)).seq (gRun_runs hG (wqGe_0 (F:=F) (b:=z.2) (g:=g) (y:=y) (c:=c) (l:=l) (chi:=chi) (k:=k) (T:=z.1) (p:=p)))))
theorem meLJ_1_r0(z:Mx×Bool):RunsTo Tryz.prog 248 wGL (wSJ 1 0 g c y l chi k z.1 p z.2) .normal (wSJ 1 1 g c y l chi k (meFJ F g.p.at k c.at 1 0 z).1 p (meFJ F g.p.at k c.at 1 0 z).2):=gCut_runs hG (wqJ_1_0 (F:=F) (b:=z.2) (g:=g) (y:=y) (c:=c) (l:=l) (chi:=chi) (k:=k) (T:=z.1) (p:=p)) (lo_wSJ ..) (ok_wSJ ..) rfl
theorem meLJ_1_r1(z:Mx×Bool):RunsTo Tryz.prog 248 wGL (wSJ 1 1 g c y l chi k z.1 p z.2) .normal (wSJ 1 2 g c y l chi k (meFJ F g.p.at k c.at 1 1 z).1 p (meFJ F g.p.at k c.at 1 1 z).2):=gCut_runs hG (wqJ_1_1 (F:=F) (b:=z.2) (g:=g) (y:=y) (c:=c) (l:=l) (chi:=chi) (k:=k) (T:=z.1) (p:=p)) (lo_wSJ ..) (ok_wSJ ..) rfl
theorem meLJ_1_r2(z:Mx×Bool):RunsTo Tryz.prog 248 wGL (wSJ 1 2 g c y l chi k z.1 p z.2) .normal (wSJ 1 3 g c y l chi k (meFJ F g.p.at k c.at 1 2 z).1 p (meFJ F g.p.at k c.at 1 2 z).2):=gCut_runs hG (wqJ_1_2 (F:=F) (b:=z.2) (g:=g) (y:=y) (c:=c) (l:=l) (chi:=chi) (k:=k) (T:=z.1) (p:=p)) (lo_wSJ ..) (ok_wSJ ..) rfl
theorem meLJ_1_r3(z:Mx×Bool):RunsTo Tryz.prog 248 wGL (wSJ 1 3 g c y l chi k z.1 p z.2) .normal (wSJ 1 4 g c y l chi k (meFJ F g.p.at k c.at 1 3 z).1 p (meFJ F g.p.at k c.at 1 3 z).2):=gCut_runs hG (wqJ_1_3 (F:=F) (b:=z.2) (g:=g) (y:=y) (c:=c) (l:=l) (chi:=chi) (k:=k) (T:=z.1) (p:=p)) (lo_wSJ ..) (ok_wSJ ..) rfl
theorem meLJ_1_r4(z:Mx×Bool):RunsTo Tryz.prog 248 wGL (wSJ 1 4 g c y l chi k z.1 p z.2) .normal (wSJ 1 5 g c y l chi k (meFJ F g.p.at k c.at 1 4 z).1 p (meFJ F g.p.at k c.at 1 4 z).2):=gCut_runs hG (wqJ_1_4 (F:=F) (b:=z.2) (g:=g) (y:=y) (c:=c) (l:=l) (chi:=chi) (k:=k) (T:=z.1) (p:=p)) (lo_wSJ ..) (ok_wSJ ..) rfl
theorem meLJ_1_r5(z:Mx×Bool):RunsTo Tryz.prog 248 wGL (wSJ 1 5 g c y l chi k z.1 p z.2) .normal (wSJ 1 6 g c y l chi k (meFJ F g.p.at k c.at 1 5 z).1 p (meFJ F g.p.at k c.at 1 5 z).2):=gCut_runs hG (wqJ_1_5 (F:=F) (b:=z.2) (g:=g) (y:=y) (c:=c) (l:=l) (chi:=chi) (k:=k) (T:=z.1) (p:=p)) (lo_wSJ ..) (ok_wSJ ..) rfl
theorem meLJ_1_r6(z:Mx×Bool):RunsTo Tryz.prog 248 wGL (wSJ 1 6 g c y l chi k z.1 p z.2) (.exit 12) (wSG 1 g c y l chi k z.1 p z.2):=gCut_runs hG (wqJ_1_6 (F:=F) (b:=z.2) (g:=g) (y:=y) (c:=c) (l:=l) (chi:=chi) (k:=k) (T:=z.1) (p:=p)) (lo_wSJ ..) (ok_wSG ..) rfl
theorem meLJ_1:RunsTo Tryz.prog 248 (.block 12 (.loop wGL)) (wSJ 1 0 g c y l chi k (T,b).1 p (T,b).2) .normal (wSG 1 g c y l chi k (iterF (meFJ F g.p.at k c.at 1) 0 6 (T,b)).1 p (iterF (meFJ F g.p.at k c.at 1) 0 6 (T,b)).2) :=
 RunsTo.rounds (P:=Tryz.prog) (N:=248) (c:=wGL) (id:=12) 6 (fun i z=>wSJ 1 i g c y l chi k z.1 p z.2) (fun z=>wSG 1 g c y l chi k z.1 p z.2) (meFJ F g.p.at k c.at 1)
  (fun i z=>below6 (p:=fun i=>RunsTo Tryz.prog 248 wGL (wSJ 1 i g c y l chi k z.1 p z.2) .normal (wSJ 1 (i+1:Nat) g c y l chi k (meFJ F g.p.at k c.at 1 i z).1 p (meFJ F g.p.at k c.at 1 i z).2))
   (meLJ_1_r0 (hG:=hG) (g:=g) (y:=y) (c:=c) (l:=l) (chi:=chi) (k:=k)  (p:=p) (z:=z))
   (meLJ_1_r1 (hG:=hG) (g:=g) (y:=y) (c:=c) (l:=l) (chi:=chi) (k:=k)  (p:=p) (z:=z))
   (meLJ_1_r2 (hG:=hG) (g:=g) (y:=y) (c:=c) (l:=l) (chi:=chi) (k:=k)  (p:=p) (z:=z))
   (meLJ_1_r3 (hG:=hG) (g:=g) (y:=y) (c:=c) (l:=l) (chi:=chi) (k:=k)  (p:=p) (z:=z))
   (meLJ_1_r4 (hG:=hG) (g:=g) (y:=y) (c:=c) (l:=l) (chi:=chi) (k:=k)  (p:=p) (z:=z))
   (meLJ_1_r5 (hG:=hG) (g:=g) (y:=y) (c:=c) (l:=l) (chi:=chi) (k:=k)  (p:=p) (z:=z))
   i)
  (fun z=>meLJ_1_r6 (hG:=hG) (g:=g) (y:=y) (c:=c) (l:=l) (chi:=chi) (k:=k)  (p:=p) (z:=z)) (T,b)
theorem meG_1:RunsTo Tryz.prog 248 wG (wSG 1 g c y l chi k T p b) .normal (wSG 2 g c y l chi k (meFG F g.p.at k c.at 1 (T,b)).1 p (meFG F g.p.at k c.at 1 (T,b)).2):=by
 rw[wG_is]
 have h:=(gRun_runs hG (wqGc_1 (F:=F) (b:=b) (g:=g) (y:=y) (c:=c) (l:=l) (chi:=chi) (k:=k) (T:=T) (p:=p))).seq ((gRun_runs hG (wqGd_1 (F:=F) (b:=b) (g:=g) (y:=y) (c:=c) (l:=l) (chi:=chi) (k:=k) (T:=T) (p:=p))).seq (meLJ_1 hG b g y c l chi k T p))
 unfold meFG
 generalize iterF (meFJ F g.p.at k c.at 1) 0 6 (T,b)=z at h ⊢
 exact (gRun_runs hG (wqGa_1 (F:=F) (b:=b) (g:=g) (y:=y) (c:=c) (l:=l) (chi:=chi) (k:=k) (T:=T) (p:=p))).seq ((gRun_runs hG (wqGb_1 (F:=F) (b:=b) (g:=g) (y:=y) (c:=c) (l:=l) (chi:=chi) (k:=k) (T:=T) (p:=p))).seq ((h.block (.inl rfl)).seq (gRun_runs hG (wqGe_1 (F:=F) (b:=z.2) (g:=g) (y:=y) (c:=c) (l:=l) (chi:=chi) (k:=k) (T:=z.1) (p:=p)))))
theorem meLJ_2_r0(z:Mx×Bool):RunsTo Tryz.prog 248 wGL (wSJ 2 0 g c y l chi k z.1 p z.2) .normal (wSJ 2 1 g c y l chi k (meFJ F g.p.at k c.at 2 0 z).1 p (meFJ F g.p.at k c.at 2 0 z).2):=gCut_runs hG (wqJ_2_0 (F:=F) (b:=z.2) (g:=g) (y:=y) (c:=c) (l:=l) (chi:=chi) (k:=k) (T:=z.1) (p:=p)) (lo_wSJ ..) (ok_wSJ ..) rfl
theorem meLJ_2_r1(z:Mx×Bool):RunsTo Tryz.prog 248 wGL (wSJ 2 1 g c y l chi k z.1 p z.2) .normal (wSJ 2 2 g c y l chi k (meFJ F g.p.at k c.at 2 1 z).1 p (meFJ F g.p.at k c.at 2 1 z).2):=gCut_runs hG (wqJ_2_1 (F:=F) (b:=z.2) (g:=g) (y:=y) (c:=c) (l:=l) (chi:=chi) (k:=k) (T:=z.1) (p:=p)) (lo_wSJ ..) (ok_wSJ ..) rfl
theorem meLJ_2_r2(z:Mx×Bool):RunsTo Tryz.prog 248 wGL (wSJ 2 2 g c y l chi k z.1 p z.2) .normal (wSJ 2 3 g c y l chi k (meFJ F g.p.at k c.at 2 2 z).1 p (meFJ F g.p.at k c.at 2 2 z).2):=gCut_runs hG (wqJ_2_2 (F:=F) (b:=z.2) (g:=g) (y:=y) (c:=c) (l:=l) (chi:=chi) (k:=k) (T:=z.1) (p:=p)) (lo_wSJ ..) (ok_wSJ ..) rfl
theorem meLJ_2_r3(z:Mx×Bool):RunsTo Tryz.prog 248 wGL (wSJ 2 3 g c y l chi k z.1 p z.2) .normal (wSJ 2 4 g c y l chi k (meFJ F g.p.at k c.at 2 3 z).1 p (meFJ F g.p.at k c.at 2 3 z).2):=gCut_runs hG (wqJ_2_3 (F:=F) (b:=z.2) (g:=g) (y:=y) (c:=c) (l:=l) (chi:=chi) (k:=k) (T:=z.1) (p:=p)) (lo_wSJ ..) (ok_wSJ ..) rfl
theorem meLJ_2_r4(z:Mx×Bool):RunsTo Tryz.prog 248 wGL (wSJ 2 4 g c y l chi k z.1 p z.2) .normal (wSJ 2 5 g c y l chi k (meFJ F g.p.at k c.at 2 4 z).1 p (meFJ F g.p.at k c.at 2 4 z).2):=gCut_runs hG (wqJ_2_4 (F:=F) (b:=z.2) (g:=g) (y:=y) (c:=c) (l:=l) (chi:=chi) (k:=k) (T:=z.1) (p:=p)) (lo_wSJ ..) (ok_wSJ ..) rfl
theorem meLJ_2_r5(z:Mx×Bool):RunsTo Tryz.prog 248 wGL (wSJ 2 5 g c y l chi k z.1 p z.2) .normal (wSJ 2 6 g c y l chi k (meFJ F g.p.at k c.at 2 5 z).1 p (meFJ F g.p.at k c.at 2 5 z).2):=gCut_runs hG (wqJ_2_5 (F:=F) (b:=z.2) (g:=g) (y:=y) (c:=c) (l:=l) (chi:=chi) (k:=k) (T:=z.1) (p:=p)) (lo_wSJ ..) (ok_wSJ ..) rfl
theorem meLJ_2_r6(z:Mx×Bool):RunsTo Tryz.prog 248 wGL (wSJ 2 6 g c y l chi k z.1 p z.2) (.exit 12) (wSG 2 g c y l chi k z.1 p z.2):=gCut_runs hG (wqJ_2_6 (F:=F) (b:=z.2) (g:=g) (y:=y) (c:=c) (l:=l) (chi:=chi) (k:=k) (T:=z.1) (p:=p)) (lo_wSJ ..) (ok_wSG ..) rfl
theorem meLJ_2:RunsTo Tryz.prog 248 (.block 12 (.loop wGL)) (wSJ 2 0 g c y l chi k (T,b).1 p (T,b).2) .normal (wSG 2 g c y l chi k (iterF (meFJ F g.p.at k c.at 2) 0 6 (T,b)).1 p (iterF (meFJ F g.p.at k c.at 2) 0 6 (T,b)).2) :=
 RunsTo.rounds (P:=Tryz.prog) (N:=248) (c:=wGL) (id:=12) 6 (fun i z=>wSJ 2 i g c y l chi k z.1 p z.2) (fun z=>wSG 2 g c y l chi k z.1 p z.2) (meFJ F g.p.at k c.at 2)
  (fun i z=>below6 (p:=fun i=>RunsTo Tryz.prog 248 wGL (wSJ 2 i g c y l chi k z.1 p z.2) .normal (wSJ 2 (i+1:Nat) g c y l chi k (meFJ F g.p.at k c.at 2 i z).1 p (meFJ F g.p.at k c.at 2 i z).2))
   (meLJ_2_r0 (hG:=hG) (g:=g) (y:=y) (c:=c) (l:=l) (chi:=chi) (k:=k)  (p:=p) (z:=z))
   (meLJ_2_r1 (hG:=hG) (g:=g) (y:=y) (c:=c) (l:=l) (chi:=chi) (k:=k)  (p:=p) (z:=z))
   (meLJ_2_r2 (hG:=hG) (g:=g) (y:=y) (c:=c) (l:=l) (chi:=chi) (k:=k)  (p:=p) (z:=z))
   (meLJ_2_r3 (hG:=hG) (g:=g) (y:=y) (c:=c) (l:=l) (chi:=chi) (k:=k)  (p:=p) (z:=z))
   (meLJ_2_r4 (hG:=hG) (g:=g) (y:=y) (c:=c) (l:=l) (chi:=chi) (k:=k)  (p:=p) (z:=z))
   (meLJ_2_r5 (hG:=hG) (g:=g) (y:=y) (c:=c) (l:=l) (chi:=chi) (k:=k)  (p:=p) (z:=z))
   i)
  (fun z=>meLJ_2_r6 (hG:=hG) (g:=g) (y:=y) (c:=c) (l:=l) (chi:=chi) (k:=k)  (p:=p) (z:=z)) (T,b)
theorem meG_2:RunsTo Tryz.prog 248 wG (wSG 2 g c y l chi k T p b) .normal (wSG 3 g c y l chi k (meFG F g.p.at k c.at 2 (T,b)).1 p (meFG F g.p.at k c.at 2 (T,b)).2):=by
 rw[wG_is]
 have h:=(gRun_runs hG (wqGc_2 (F:=F) (b:=b) (g:=g) (y:=y) (c:=c) (l:=l) (chi:=chi) (k:=k) (T:=T) (p:=p))).seq ((gRun_runs hG (wqGd_2 (F:=F) (b:=b) (g:=g) (y:=y) (c:=c) (l:=l) (chi:=chi) (k:=k) (T:=T) (p:=p))).seq (meLJ_2 hG b g y c l chi k T p))
 unfold meFG
 generalize iterF (meFJ F g.p.at k c.at 2) 0 6 (T,b)=z at h ⊢
 exact (gRun_runs hG (wqGa_2 (F:=F) (b:=b) (g:=g) (y:=y) (c:=c) (l:=l) (chi:=chi) (k:=k) (T:=T) (p:=p))).seq ((gRun_runs hG (wqGb_2 (F:=F) (b:=b) (g:=g) (y:=y) (c:=c) (l:=l) (chi:=chi) (k:=k) (T:=T) (p:=p))).seq ((h.block (.inl rfl)).seq (gRun_runs hG (wqGe_2 (F:=F) (b:=z.2) (g:=g) (y:=y) (c:=c) (l:=l) (chi:=chi) (k:=k) (T:=z.1) (p:=p)))))
theorem meLJ_3_r0(z:Mx×Bool):RunsTo Tryz.prog 248 wGL (wSJ 3 0 g c y l chi k z.1 p z.2) .normal (wSJ 3 1 g c y l chi k (meFJ F g.p.at k c.at 3 0 z).1 p (meFJ F g.p.at k c.at 3 0 z).2):=gCut_runs hG (wqJ_3_0 (F:=F) (b:=z.2) (g:=g) (y:=y) (c:=c) (l:=l) (chi:=chi) (k:=k) (T:=z.1) (p:=p)) (lo_wSJ ..) (ok_wSJ ..) rfl
theorem meLJ_3_r1(z:Mx×Bool):RunsTo Tryz.prog 248 wGL (wSJ 3 1 g c y l chi k z.1 p z.2) .normal (wSJ 3 2 g c y l chi k (meFJ F g.p.at k c.at 3 1 z).1 p (meFJ F g.p.at k c.at 3 1 z).2):=gCut_runs hG (wqJ_3_1 (F:=F) (b:=z.2) (g:=g) (y:=y) (c:=c) (l:=l) (chi:=chi) (k:=k) (T:=z.1) (p:=p)) (lo_wSJ ..) (ok_wSJ ..) rfl
theorem meLJ_3_r2(z:Mx×Bool):RunsTo Tryz.prog 248 wGL (wSJ 3 2 g c y l chi k z.1 p z.2) .normal (wSJ 3 3 g c y l chi k (meFJ F g.p.at k c.at 3 2 z).1 p (meFJ F g.p.at k c.at 3 2 z).2):=gCut_runs hG (wqJ_3_2 (F:=F) (b:=z.2) (g:=g) (y:=y) (c:=c) (l:=l) (chi:=chi) (k:=k) (T:=z.1) (p:=p)) (lo_wSJ ..) (ok_wSJ ..) rfl
theorem meLJ_3_r3(z:Mx×Bool):RunsTo Tryz.prog 248 wGL (wSJ 3 3 g c y l chi k z.1 p z.2) .normal (wSJ 3 4 g c y l chi k (meFJ F g.p.at k c.at 3 3 z).1 p (meFJ F g.p.at k c.at 3 3 z).2):=gCut_runs hG (wqJ_3_3 (F:=F) (b:=z.2) (g:=g) (y:=y) (c:=c) (l:=l) (chi:=chi) (k:=k) (T:=z.1) (p:=p)) (lo_wSJ ..) (ok_wSJ ..) rfl
theorem meLJ_3_r4(z:Mx×Bool):RunsTo Tryz.prog 248 wGL (wSJ 3 4 g c y l chi k z.1 p z.2) .normal (wSJ 3 5 g c y l chi k (meFJ F g.p.at k c.at 3 4 z).1 p (meFJ F g.p.at k c.at 3 4 z).2):=gCut_runs hG (wqJ_3_4 (F:=F) (b:=z.2) (g:=g) (y:=y) (c:=c) (l:=l) (chi:=chi) (k:=k) (T:=z.1) (p:=p)) (lo_wSJ ..) (ok_wSJ ..) rfl
theorem meLJ_3_r5(z:Mx×Bool):RunsTo Tryz.prog 248 wGL (wSJ 3 5 g c y l chi k z.1 p z.2) .normal (wSJ 3 6 g c y l chi k (meFJ F g.p.at k c.at 3 5 z).1 p (meFJ F g.p.at k c.at 3 5 z).2):=gCut_runs hG (wqJ_3_5 (F:=F) (b:=z.2) (g:=g) (y:=y) (c:=c) (l:=l) (chi:=chi) (k:=k) (T:=z.1) (p:=p)) (lo_wSJ ..) (ok_wSJ ..) rfl
theorem meLJ_3_r6(z:Mx×Bool):RunsTo Tryz.prog 248 wGL (wSJ 3 6 g c y l chi k z.1 p z.2) (.exit 12) (wSG 3 g c y l chi k z.1 p z.2):=gCut_runs hG (wqJ_3_6 (F:=F) (b:=z.2) (g:=g) (y:=y) (c:=c) (l:=l) (chi:=chi) (k:=k) (T:=z.1) (p:=p)) (lo_wSJ ..) (ok_wSG ..) rfl
theorem meLJ_3:RunsTo Tryz.prog 248 (.block 12 (.loop wGL)) (wSJ 3 0 g c y l chi k (T,b).1 p (T,b).2) .normal (wSG 3 g c y l chi k (iterF (meFJ F g.p.at k c.at 3) 0 6 (T,b)).1 p (iterF (meFJ F g.p.at k c.at 3) 0 6 (T,b)).2) :=
 RunsTo.rounds (P:=Tryz.prog) (N:=248) (c:=wGL) (id:=12) 6 (fun i z=>wSJ 3 i g c y l chi k z.1 p z.2) (fun z=>wSG 3 g c y l chi k z.1 p z.2) (meFJ F g.p.at k c.at 3)
  (fun i z=>below6 (p:=fun i=>RunsTo Tryz.prog 248 wGL (wSJ 3 i g c y l chi k z.1 p z.2) .normal (wSJ 3 (i+1:Nat) g c y l chi k (meFJ F g.p.at k c.at 3 i z).1 p (meFJ F g.p.at k c.at 3 i z).2))
   (meLJ_3_r0 (hG:=hG) (g:=g) (y:=y) (c:=c) (l:=l) (chi:=chi) (k:=k)  (p:=p) (z:=z))
   (meLJ_3_r1 (hG:=hG) (g:=g) (y:=y) (c:=c) (l:=l) (chi:=chi) (k:=k)  (p:=p) (z:=z))
   (meLJ_3_r2 (hG:=hG) (g:=g) (y:=y) (c:=c) (l:=l) (chi:=chi) (k:=k)  (p:=p) (z:=z))
   (meLJ_3_r3 (hG:=hG) (g:=g) (y:=y) (c:=c) (l:=l) (chi:=chi) (k:=k)  (p:=p) (z:=z))
   (meLJ_3_r4 (hG:=hG) (g:=g) (y:=y) (c:=c) (l:=l) (chi:=chi) (k:=k)  (p:=p) (z:=z))
   (meLJ_3_r5 (hG:=hG) (g:=g) (y:=y) (c:=c) (l:=l) (chi:=chi) (k:=k)  (p:=p) (z:=z))
   i)
  (fun z=>meLJ_3_r6 (hG:=hG) (g:=g) (y:=y) (c:=c) (l:=l) (chi:=chi) (k:=k)  (p:=p) (z:=z)) (T,b)
theorem meG_3:RunsTo Tryz.prog 248 wG (wSG 3 g c y l chi k T p b) .normal (wSG 4 g c y l chi k (meFG F g.p.at k c.at 3 (T,b)).1 p (meFG F g.p.at k c.at 3 (T,b)).2):=by
 rw[wG_is]
 have h:=(gRun_runs hG (wqGc_3 (F:=F) (b:=b) (g:=g) (y:=y) (c:=c) (l:=l) (chi:=chi) (k:=k) (T:=T) (p:=p))).seq ((gRun_runs hG (wqGd_3 (F:=F) (b:=b) (g:=g) (y:=y) (c:=c) (l:=l) (chi:=chi) (k:=k) (T:=T) (p:=p))).seq (meLJ_3 hG b g y c l chi k T p))
 unfold meFG
 generalize iterF (meFJ F g.p.at k c.at 3) 0 6 (T,b)=z at h ⊢
 exact (gRun_runs hG (wqGa_3 (F:=F) (b:=b) (g:=g) (y:=y) (c:=c) (l:=l) (chi:=chi) (k:=k) (T:=T) (p:=p))).seq ((gRun_runs hG (wqGb_3 (F:=F) (b:=b) (g:=g) (y:=y) (c:=c) (l:=l) (chi:=chi) (k:=k) (T:=T) (p:=p))).seq ((h.block (.inl rfl)).seq (gRun_runs hG (wqGe_3 (F:=F) (b:=z.2) (g:=g) (y:=y) (c:=c) (l:=l) (chi:=chi) (k:=k) (T:=z.1) (p:=p)))))
theorem meLJ_4_r0(z:Mx×Bool):RunsTo Tryz.prog 248 wGL (wSJ 4 0 g c y l chi k z.1 p z.2) .normal (wSJ 4 1 g c y l chi k (meFJ F g.p.at k c.at 4 0 z).1 p (meFJ F g.p.at k c.at 4 0 z).2):=gCut_runs hG (wqJ_4_0 (F:=F) (b:=z.2) (g:=g) (y:=y) (c:=c) (l:=l) (chi:=chi) (k:=k) (T:=z.1) (p:=p)) (lo_wSJ ..) (ok_wSJ ..) rfl
theorem meLJ_4_r1(z:Mx×Bool):RunsTo Tryz.prog 248 wGL (wSJ 4 1 g c y l chi k z.1 p z.2) .normal (wSJ 4 2 g c y l chi k (meFJ F g.p.at k c.at 4 1 z).1 p (meFJ F g.p.at k c.at 4 1 z).2):=gCut_runs hG (wqJ_4_1 (F:=F) (b:=z.2) (g:=g) (y:=y) (c:=c) (l:=l) (chi:=chi) (k:=k) (T:=z.1) (p:=p)) (lo_wSJ ..) (ok_wSJ ..) rfl
theorem meLJ_4_r2(z:Mx×Bool):RunsTo Tryz.prog 248 wGL (wSJ 4 2 g c y l chi k z.1 p z.2) .normal (wSJ 4 3 g c y l chi k (meFJ F g.p.at k c.at 4 2 z).1 p (meFJ F g.p.at k c.at 4 2 z).2):=gCut_runs hG (wqJ_4_2 (F:=F) (b:=z.2) (g:=g) (y:=y) (c:=c) (l:=l) (chi:=chi) (k:=k) (T:=z.1) (p:=p)) (lo_wSJ ..) (ok_wSJ ..) rfl
theorem meLJ_4_r3(z:Mx×Bool):RunsTo Tryz.prog 248 wGL (wSJ 4 3 g c y l chi k z.1 p z.2) .normal (wSJ 4 4 g c y l chi k (meFJ F g.p.at k c.at 4 3 z).1 p (meFJ F g.p.at k c.at 4 3 z).2):=gCut_runs hG (wqJ_4_3 (F:=F) (b:=z.2) (g:=g) (y:=y) (c:=c) (l:=l) (chi:=chi) (k:=k) (T:=z.1) (p:=p)) (lo_wSJ ..) (ok_wSJ ..) rfl
theorem meLJ_4_r4(z:Mx×Bool):RunsTo Tryz.prog 248 wGL (wSJ 4 4 g c y l chi k z.1 p z.2) .normal (wSJ 4 5 g c y l chi k (meFJ F g.p.at k c.at 4 4 z).1 p (meFJ F g.p.at k c.at 4 4 z).2):=gCut_runs hG (wqJ_4_4 (F:=F) (b:=z.2) (g:=g) (y:=y) (c:=c) (l:=l) (chi:=chi) (k:=k) (T:=z.1) (p:=p)) (lo_wSJ ..) (ok_wSJ ..) rfl
theorem meLJ_4_r5(z:Mx×Bool):RunsTo Tryz.prog 248 wGL (wSJ 4 5 g c y l chi k z.1 p z.2) .normal (wSJ 4 6 g c y l chi k (meFJ F g.p.at k c.at 4 5 z).1 p (meFJ F g.p.at k c.at 4 5 z).2):=gCut_runs hG (wqJ_4_5 (F:=F) (b:=z.2) (g:=g) (y:=y) (c:=c) (l:=l) (chi:=chi) (k:=k) (T:=z.1) (p:=p)) (lo_wSJ ..) (ok_wSJ ..) rfl
theorem meLJ_4_r6(z:Mx×Bool):RunsTo Tryz.prog 248 wGL (wSJ 4 6 g c y l chi k z.1 p z.2) (.exit 12) (wSG 4 g c y l chi k z.1 p z.2):=gCut_runs hG (wqJ_4_6 (F:=F) (b:=z.2) (g:=g) (y:=y) (c:=c) (l:=l) (chi:=chi) (k:=k) (T:=z.1) (p:=p)) (lo_wSJ ..) (ok_wSG ..) rfl
theorem meLJ_4:RunsTo Tryz.prog 248 (.block 12 (.loop wGL)) (wSJ 4 0 g c y l chi k (T,b).1 p (T,b).2) .normal (wSG 4 g c y l chi k (iterF (meFJ F g.p.at k c.at 4) 0 6 (T,b)).1 p (iterF (meFJ F g.p.at k c.at 4) 0 6 (T,b)).2) :=
 RunsTo.rounds (P:=Tryz.prog) (N:=248) (c:=wGL) (id:=12) 6 (fun i z=>wSJ 4 i g c y l chi k z.1 p z.2) (fun z=>wSG 4 g c y l chi k z.1 p z.2) (meFJ F g.p.at k c.at 4)
  (fun i z=>below6 (p:=fun i=>RunsTo Tryz.prog 248 wGL (wSJ 4 i g c y l chi k z.1 p z.2) .normal (wSJ 4 (i+1:Nat) g c y l chi k (meFJ F g.p.at k c.at 4 i z).1 p (meFJ F g.p.at k c.at 4 i z).2))
   (meLJ_4_r0 (hG:=hG) (g:=g) (y:=y) (c:=c) (l:=l) (chi:=chi) (k:=k)  (p:=p) (z:=z))
   (meLJ_4_r1 (hG:=hG) (g:=g) (y:=y) (c:=c) (l:=l) (chi:=chi) (k:=k)  (p:=p) (z:=z))
   (meLJ_4_r2 (hG:=hG) (g:=g) (y:=y) (c:=c) (l:=l) (chi:=chi) (k:=k)  (p:=p) (z:=z))
   (meLJ_4_r3 (hG:=hG) (g:=g) (y:=y) (c:=c) (l:=l) (chi:=chi) (k:=k)  (p:=p) (z:=z))
   (meLJ_4_r4 (hG:=hG) (g:=g) (y:=y) (c:=c) (l:=l) (chi:=chi) (k:=k)  (p:=p) (z:=z))
   (meLJ_4_r5 (hG:=hG) (g:=g) (y:=y) (c:=c) (l:=l) (chi:=chi) (k:=k)  (p:=p) (z:=z))
   i)
  (fun z=>meLJ_4_r6 (hG:=hG) (g:=g) (y:=y) (c:=c) (l:=l) (chi:=chi) (k:=k)  (p:=p) (z:=z)) (T,b)
theorem meG_4:RunsTo Tryz.prog 248 wG (wSG 4 g c y l chi k T p b) .normal (wSG 5 g c y l chi k (meFG F g.p.at k c.at 4 (T,b)).1 p (meFG F g.p.at k c.at 4 (T,b)).2):=by
 rw[wG_is]
 have h:=(gRun_runs hG (wqGc_4 (F:=F) (b:=b) (g:=g) (y:=y) (c:=c) (l:=l) (chi:=chi) (k:=k) (T:=T) (p:=p))).seq ((gRun_runs hG (wqGd_4 (F:=F) (b:=b) (g:=g) (y:=y) (c:=c) (l:=l) (chi:=chi) (k:=k) (T:=T) (p:=p))).seq (meLJ_4 hG b g y c l chi k T p))
 unfold meFG
 generalize iterF (meFJ F g.p.at k c.at 4) 0 6 (T,b)=z at h ⊢
 exact (gRun_runs hG (wqGa_4 (F:=F) (b:=b) (g:=g) (y:=y) (c:=c) (l:=l) (chi:=chi) (k:=k) (T:=T) (p:=p))).seq ((gRun_runs hG (wqGb_4 (F:=F) (b:=b) (g:=g) (y:=y) (c:=c) (l:=l) (chi:=chi) (k:=k) (T:=T) (p:=p))).seq ((h.block (.inl rfl)).seq (gRun_runs hG (wqGe_4 (F:=F) (b:=z.2) (g:=g) (y:=y) (c:=c) (l:=l) (chi:=chi) (k:=k) (T:=z.1) (p:=p)))))
theorem meLJ_5_r0(z:Mx×Bool):RunsTo Tryz.prog 248 wGL (wSJ 5 0 g c y l chi k z.1 p z.2) .normal (wSJ 5 1 g c y l chi k (meFJ F g.p.at k c.at 5 0 z).1 p (meFJ F g.p.at k c.at 5 0 z).2):=gCut_runs hG (wqJ_5_0 (F:=F) (b:=z.2) (g:=g) (y:=y) (c:=c) (l:=l) (chi:=chi) (k:=k) (T:=z.1) (p:=p)) (lo_wSJ ..) (ok_wSJ ..) rfl
theorem meLJ_5_r1(z:Mx×Bool):RunsTo Tryz.prog 248 wGL (wSJ 5 1 g c y l chi k z.1 p z.2) .normal (wSJ 5 2 g c y l chi k (meFJ F g.p.at k c.at 5 1 z).1 p (meFJ F g.p.at k c.at 5 1 z).2):=gCut_runs hG (wqJ_5_1 (F:=F) (b:=z.2) (g:=g) (y:=y) (c:=c) (l:=l) (chi:=chi) (k:=k) (T:=z.1) (p:=p)) (lo_wSJ ..) (ok_wSJ ..) rfl
theorem meLJ_5_r2(z:Mx×Bool):RunsTo Tryz.prog 248 wGL (wSJ 5 2 g c y l chi k z.1 p z.2) .normal (wSJ 5 3 g c y l chi k (meFJ F g.p.at k c.at 5 2 z).1 p (meFJ F g.p.at k c.at 5 2 z).2):=gCut_runs hG (wqJ_5_2 (F:=F) (b:=z.2) (g:=g) (y:=y) (c:=c) (l:=l) (chi:=chi) (k:=k) (T:=z.1) (p:=p)) (lo_wSJ ..) (ok_wSJ ..) rfl
theorem meLJ_5_r3(z:Mx×Bool):RunsTo Tryz.prog 248 wGL (wSJ 5 3 g c y l chi k z.1 p z.2) .normal (wSJ 5 4 g c y l chi k (meFJ F g.p.at k c.at 5 3 z).1 p (meFJ F g.p.at k c.at 5 3 z).2):=gCut_runs hG (wqJ_5_3 (F:=F) (b:=z.2) (g:=g) (y:=y) (c:=c) (l:=l) (chi:=chi) (k:=k) (T:=z.1) (p:=p)) (lo_wSJ ..) (ok_wSJ ..) rfl
theorem meLJ_5_r4(z:Mx×Bool):RunsTo Tryz.prog 248 wGL (wSJ 5 4 g c y l chi k z.1 p z.2) .normal (wSJ 5 5 g c y l chi k (meFJ F g.p.at k c.at 5 4 z).1 p (meFJ F g.p.at k c.at 5 4 z).2):=gCut_runs hG (wqJ_5_4 (F:=F) (b:=z.2) (g:=g) (y:=y) (c:=c) (l:=l) (chi:=chi) (k:=k) (T:=z.1) (p:=p)) (lo_wSJ ..) (ok_wSJ ..) rfl
theorem meLJ_5_r5(z:Mx×Bool):RunsTo Tryz.prog 248 wGL (wSJ 5 5 g c y l chi k z.1 p z.2) .normal (wSJ 5 6 g c y l chi k (meFJ F g.p.at k c.at 5 5 z).1 p (meFJ F g.p.at k c.at 5 5 z).2):=gCut_runs hG (wqJ_5_5 (F:=F) (b:=z.2) (g:=g) (y:=y) (c:=c) (l:=l) (chi:=chi) (k:=k) (T:=z.1) (p:=p)) (lo_wSJ ..) (ok_wSJ ..) rfl
theorem meLJ_5_r6(z:Mx×Bool):RunsTo Tryz.prog 248 wGL (wSJ 5 6 g c y l chi k z.1 p z.2) (.exit 12) (wSG 5 g c y l chi k z.1 p z.2):=gCut_runs hG (wqJ_5_6 (F:=F) (b:=z.2) (g:=g) (y:=y) (c:=c) (l:=l) (chi:=chi) (k:=k) (T:=z.1) (p:=p)) (lo_wSJ ..) (ok_wSG ..) rfl
theorem meLJ_5:RunsTo Tryz.prog 248 (.block 12 (.loop wGL)) (wSJ 5 0 g c y l chi k (T,b).1 p (T,b).2) .normal (wSG 5 g c y l chi k (iterF (meFJ F g.p.at k c.at 5) 0 6 (T,b)).1 p (iterF (meFJ F g.p.at k c.at 5) 0 6 (T,b)).2) :=
 RunsTo.rounds (P:=Tryz.prog) (N:=248) (c:=wGL) (id:=12) 6 (fun i z=>wSJ 5 i g c y l chi k z.1 p z.2) (fun z=>wSG 5 g c y l chi k z.1 p z.2) (meFJ F g.p.at k c.at 5)
  (fun i z=>below6 (p:=fun i=>RunsTo Tryz.prog 248 wGL (wSJ 5 i g c y l chi k z.1 p z.2) .normal (wSJ 5 (i+1:Nat) g c y l chi k (meFJ F g.p.at k c.at 5 i z).1 p (meFJ F g.p.at k c.at 5 i z).2))
   (meLJ_5_r0 (hG:=hG) (g:=g) (y:=y) (c:=c) (l:=l) (chi:=chi) (k:=k)  (p:=p) (z:=z))
   (meLJ_5_r1 (hG:=hG) (g:=g) (y:=y) (c:=c) (l:=l) (chi:=chi) (k:=k)  (p:=p) (z:=z))
   (meLJ_5_r2 (hG:=hG) (g:=g) (y:=y) (c:=c) (l:=l) (chi:=chi) (k:=k)  (p:=p) (z:=z))
   (meLJ_5_r3 (hG:=hG) (g:=g) (y:=y) (c:=c) (l:=l) (chi:=chi) (k:=k)  (p:=p) (z:=z))
   (meLJ_5_r4 (hG:=hG) (g:=g) (y:=y) (c:=c) (l:=l) (chi:=chi) (k:=k)  (p:=p) (z:=z))
   (meLJ_5_r5 (hG:=hG) (g:=g) (y:=y) (c:=c) (l:=l) (chi:=chi) (k:=k)  (p:=p) (z:=z))
   i)
  (fun z=>meLJ_5_r6 (hG:=hG) (g:=g) (y:=y) (c:=c) (l:=l) (chi:=chi) (k:=k)  (p:=p) (z:=z)) (T,b)
theorem meG_5:RunsTo Tryz.prog 248 wG (wSG 5 g c y l chi k T p b) .normal (wSG 6 g c y l chi k (meFG F g.p.at k c.at 5 (T,b)).1 p (meFG F g.p.at k c.at 5 (T,b)).2):=by
 rw[wG_is]
 have h:=(gRun_runs hG (wqGc_5 (F:=F) (b:=b) (g:=g) (y:=y) (c:=c) (l:=l) (chi:=chi) (k:=k) (T:=T) (p:=p))).seq ((gRun_runs hG (wqGd_5 (F:=F) (b:=b) (g:=g) (y:=y) (c:=c) (l:=l) (chi:=chi) (k:=k) (T:=T) (p:=p))).seq (meLJ_5 hG b g y c l chi k T p))
 unfold meFG
 generalize iterF (meFJ F g.p.at k c.at 5) 0 6 (T,b)=z at h ⊢
 exact (gRun_runs hG (wqGa_5 (F:=F) (b:=b) (g:=g) (y:=y) (c:=c) (l:=l) (chi:=chi) (k:=k) (T:=T) (p:=p))).seq ((gRun_runs hG (wqGb_5 (F:=F) (b:=b) (g:=g) (y:=y) (c:=c) (l:=l) (chi:=chi) (k:=k) (T:=T) (p:=p))).seq ((h.block (.inl rfl)).seq (gRun_runs hG (wqGe_5 (F:=F) (b:=z.2) (g:=g) (y:=y) (c:=c) (l:=l) (chi:=chi) (k:=k) (T:=z.1) (p:=p)))))
theorem meG_6:RunsTo Tryz.prog 248 wG (wSG 6 g c y l chi k T p b) (.exit 10) (wS35 g c y l chi k T p b):=gCut_runs hG (wqG_6 (F:=F) (b:=b) (g:=g) (y:=y) (c:=c) (l:=l) (chi:=chi) (k:=k) (T:=T) (p:=p)) (lo_wSG ..) (ok_wS35 ..) rfl
theorem meLG:RunsTo Tryz.prog 248 (.block 10 (.loop wG)) (wSG 0 g c y l chi k T p b) .normal (wS35 g c y l chi k (iterF (meFG F g.p.at k c.at) 0 6 (T,b)).1 p (iterF (meFG F g.p.at k c.at) 0 6 (T,b)).2) :=
 RunsTo.rounds (P:=Tryz.prog) (N:=248) (c:=wG) (id:=10) 6 (fun i z=>wSG i g c y l chi k z.1 p z.2) (fun z=>wS35 g c y l chi k z.1 p z.2) (meFG F g.p.at k c.at)
  (fun i z=>below6 (p:=fun i=>RunsTo Tryz.prog 248 wG (wSG i g c y l chi k z.1 p z.2) .normal (wSG (i+1:Nat) g c y l chi k (meFG F g.p.at k c.at i z).1 p (meFG F g.p.at k c.at i z).2))
   (meG_0 hG z.2 g y c l chi k z.1 p)
   (meG_1 hG z.2 g y c l chi k z.1 p)
   (meG_2 hG z.2 g y c l chi k z.1 p)
   (meG_3 hG z.2 g y c l chi k z.1 p)
   (meG_4 hG z.2 g y c l chi k z.1 p)
   (meG_5 hG z.2 g y c l chi k z.1 p)
   i)
  (fun z=>meG_6 hG z.2 g y c l chi k z.1 p) (T,b)
end
end Go.Ab
namespace Go.Ab
open Go Go.Proofs
def GCB.zero:GCB:=⟨Gs.zero,0,false⟩
def meetEnd(F:GOps)(g:Gs)(c:M6)(y:R6)(l:M6)(chi:Int):GCB×Bool :=
 let k:=iterF (meFF F l c) 0 6 (mx0,false)
 let T:=iterF (meFG F g.p.at k.1 c.at) 0 6 (mx0,k.2)
 let p:=iterF (meFH F T.1) 0 6 (mx0,T.2)
 let z:=meZ F g y k.1 p.1 p.2
 (⟨z.1.a,bif z.1.b then chi else 0,z.1.b⟩,z.2)
def meetMid(F:GOps)(g:Gs)(c:M6)(y:R6)(l:M6)(e:Int×Bool):GCB×Bool :=
 bif e.2 then (GCB.zero,true) else bif decide (e.1>32985348833280) then (⟨g,e.1,false⟩,false) else meetEnd F g c y l e.1
def meetO(F:GOps)(b:Bool)(a:Gs×P2×P2×Unit):GCB×Bool :=
 let s:=iterF (meFA F) 0 2 ((a.2.1,a.2.2.1),b)
 let x:=F.pt s.2 (a.1,())
 let z:=iterF (meFB F a.1.q s.1.1 x.1) 0 13 (mx0,x.2)
 let d:=F.cen z.2 (x13of z.1)
 let p:=F.pro d.2 d.1.x d.1.x
 let c:=F.pro p.2 x.1 d.1.x
 let n:=F.ont c.2 p.1 67108864 268435456
 let y:=iterF (meFD F d.1.m) 0 6 ((joinV s.1.2.a s.1.2.b).at,n.2)
 let l:=F.rt y.2 (n.1,6,())
 let u:=F.so l.2 (l.1,R6.of y.1,6,())
 let e:=iterF (meFE F (R6.of y.1) u.1) 0 6 (0,u.2)
 meetMid F a.1 c.1 (R6.of y.1) l.1 e
noncomputable abbrev wEnd:Code:=.seq w35 (.seq (.seq w36 (.block 8 (.loop wF))) (.seq (.seq w41 (.block 10 (.loop wG))) (.seq (.seq w56 (.block 16 (.loop wH))) (.seq w65 (.seq w66 w68)))))
theorem wq33_ret(g:Gs)(c:M6)(y:R6)(l:M6)(chi:Int)(b:Bool):dropSt [0,nD] (restN 248 [0,8,9,10]) (gSt 248 [(0,.ptr 0 0),(8,.ptr nD 0),(9,.val (.int .i64 chi)),(10,.val (.bool false)),(5,.ptr nA 0),(21,.ptr nI 0),(22,.ptr nJ 0),(24,.ptr nK 0),(25,.val (.int .i64 chi))] [(0,.row 57 [.val (.bool b)]),(nA,.row 42 g.av),(nD,.row 42 g.av),(nI,.row 40 c.av),(nJ,.row 38 y.av),(nK,.row 40 l.av)] nL)=wR g chi false b:=by kernel_rfl
theorem wq33_go(g:Gs)(c:M6)(y:R6)(l:M6)(chi:Int)(b:Bool):gSt 248 [(0,.ptr 0 0),(8,.ptr nD 0),(9,.any),(10,.any),(5,.ptr nA 0),(21,.ptr nI 0),(22,.ptr nJ 0),(24,.ptr nK 0),(25,.val (.int .i64 chi))] [(0,.row 57 [.val (.bool b)]),(nA,.row 42 g.av),(nD,.row 42 Gs.zero.av),(nI,.row 40 c.av),(nJ,.row 38 y.av),(nK,.row 40 l.av)] nL=wS25 g c y l chi b:=by kernel_rfl
section
variable {F:GOps} (hG:GamOk Tryz.prog (eE F).gam)
include hG
theorem end_runs(g:Gs)(c:M6)(y:R6)(l:M6)(chi:Int):RunsTo Tryz.prog 248 wEnd (wS25 g c y l chi false) .ret (wR2 (meetEnd F g c y l chi).1.g (meetEnd F g c y l chi).1.chi (meetEnd F g c y l chi).1.ok (meetEnd F g c y l chi).2):=by
 have h35:=gRun_runs hG (wq35 (F:=F) (b:=false) (g:=g) (c:=c) (y:=y) (l:=l) (chi:=chi))
 have h36:=(gRun_runs hG (wq36 (F:=F) (b:=false) (g:=g) (c:=c) (y:=y) (l:=l) (chi:=chi) (k:=mx0) (T:=mx0) (p:=mx0))).seq (meLF (hG:=hG) (b:=false) (g:=g) (c:=c) (y:=y) (l:=l) (chi:=chi) (k:=mx0) (T:=mx0) (p:=mx0))
 unfold meetEnd
 dsimp only
 generalize iterF (meFF F l c) 0 6 (mx0,false)=k at h36 ⊢
 have h41:=(gRun_runs hG (wq41 (F:=F) (b:=k.2) (g:=g) (c:=c) (y:=y) (l:=l) (chi:=chi) (k:=k.1) (T:=mx0) (p:=mx0))).seq (meLG (hG:=hG) (b:=k.2) (g:=g) (c:=c) (y:=y) (l:=l) (chi:=chi) (k:=k.1) (T:=mx0) (p:=mx0))
 generalize iterF (meFG F g.p.at k.1 c.at) 0 6 (mx0,k.2)=T at h41 ⊢
 have h56:=(gRun_runs hG (wq56 (F:=F) (b:=T.2) (g:=g) (c:=c) (y:=y) (l:=l) (chi:=chi) (k:=k.1) (T:=T.1) (p:=mx0))).seq (meLH (hG:=hG) (b:=T.2) (g:=g) (c:=c) (y:=y) (l:=l) (chi:=chi) (k:=k.1) (T:=T.1) (p:=mx0))
 generalize iterF (meFH F T.1) 0 6 (mx0,T.2)=p at h56 ⊢
 have h65:=gRun_runs hG (wq65 (F:=F) (b:=p.2) (g:=g) (c:=c) (y:=y) (l:=l) (chi:=chi) (k:=k.1) (T:=T.1) (p:=p.1))
 generalize meZ F g y k.1 p.1 p.2=z at h65 ⊢
 have h66:RunsTo Tryz.prog 248 w66 (wS65 chi z.1.b z.1.a z.2) .normal (wS65 (bif z.1.b then chi else 0) z.1.b z.1.a z.2):=by
  refine gRun_runs hG ((wq66 (F:=F) (b:=z.2) (g:=z.1.a) (chi:=chi) (ok:=z.1.b)).trans ?_)
  cases z.1.b<;>rfl
 have h68:=gRun_runs hG (wq68 (F:=F) (b:=z.2) (g:=z.1.a) (chi:=bif z.1.b then chi else 0) (ok:=z.1.b))
 exact h35.seq (h36.seq (h41.seq (h56.seq (h65.seq (h66.seq h68)))))
def MeetR(r:GCB×Bool)(c:Code)(s:St):Prop:=RunsTo Tryz.prog 248 c s .ret (wR r.1.g r.1.chi r.1.ok r.2)∨RunsTo Tryz.prog 248 c s .ret (wR2 r.1.g r.1.chi r.1.ok r.2)
omit hG in
theorem MeetR.pre{r:GCB×Bool}{c d:Code}{s s1:St}(h:RunsTo Tryz.prog 248 d s .normal s1)(k:MeetR r c s1):MeetR r (.seq d c) s:=by
 rcases k with k | k
 ·exact .inl (h.seq k)
 ·exact .inr (h.seq k)
theorem mid_runs(g:Gs)(c:M6)(y:R6)(l:M6)(e:Int×Bool):MeetR (meetMid F g c y l e) (.seq w31 (.seq w33 wEnd)) (wS25 g c y l e.1 e.2):=by
 obtain ⟨chi,b⟩:=e
 unfold meetMid
 cases b with
 | true=>exact .inl ((gRun_runs hG (wq31t (F:=F) (g:=g) (c:=c) (y:=y) (l:=l) (chi:=chi))).seqR)
 | false =>
  refine MeetR.pre (gRun_runs hG (wq31f (F:=F) (g:=g) (c:=c) (y:=y) (l:=l) (chi:=chi))) ?_
  have h33:=wq33 (F:=F) (b:=false) (g:=g) (c:=c) (y:=y) (l:=l) (chi:=chi)
  simp only[cond_false]
  by_cases hc:chi>32985348833280
  ·rw[decide_eq_true hc,cond_true]at h33 ⊢
   have h:=gRun_runs hG h33
   refine .inl (RunsTo.seqR (h.weak_end ?_ (Nat.le_refl _) (Nat.le_refl _)))
   rw[← wq33_ret g c y l chi false]
   exact dropSt_wk _ _ _
  ·rw[decide_eq_false hc,cond_false,wq33_go]at h33
   rw[decide_eq_false hc,cond_false]
   exact MeetR.pre (gRun_runs hG h33) (.inr (end_runs hG g c y l chi))
theorem meet_runs(b:Bool)(a:Gs×P2×P2×Unit):MeetR (meetO F b a) (.seq w0 (.seq (.seq w1 (.block 0 (.loop wA))) (.seq w6 (.seq w7 (.seq (.seq w8 (.block 2 (.loop wB))) (.seq w15 (.seq w16 (.seq w17 (.seq w18 (.seq (.seq w19 (.block 4 (.loop wD))) (.seq w24 (.seq w25 (.seq (.seq w26 (.block 6 (.loop wE))) (.seq w31 (.seq w33 wEnd))))))))))))))) (startS 248 (.ptr 0 0 :: Args.encs a) (row 57 b)):=by
 obtain ⟨g,sky,body,_⟩:=a
 refine MeetR.pre (gRun_runs hG (wq0 (F:=F) (b:=b) (g:=g) (sky:=sky) (body:=body))) ?_
 unfold meetO
 dsimp only
 refine MeetR.pre ((gRun_runs hG (wq1 (F:=F) (b:=b) (g:=g) (sky:=sky) (body:=body))).seq (meLA (hG:=hG) (b:=b) (g:=g) (sky:=sky) (body:=body))) ?_
 generalize iterF (meFA F) 0 2 ((sky,body),b)=s
 refine MeetR.pre (gRun_runs hG (wq6 (F:=F) (b:=s.2) (g:=g) (sky:=s.1.1) (body:=s.1.2))) ?_
 generalize F.pt s.2 (g,())=x
 refine MeetR.pre (gRun_runs hG (wq7 (F:=F) (b:=x.2) (g:=g) (sky:=s.1.1) (body:=s.1.2) (x:=x.1))) ?_
 refine MeetR.pre ((gRun_runs hG (wq8 (F:=F) (b:=x.2) (g:=g) (sky:=s.1.1) (body:=s.1.2) (x:=x.1) (Z:=mx0))).seq (meLB (hG:=hG) (b:=x.2) (g:=g) (sky:=s.1.1) (body:=s.1.2) (x:=x.1) (Z:=mx0))) ?_
 generalize iterF (meFB F g.q s.1.1 x.1) 0 13 (mx0,x.2)=z
 refine MeetR.pre (gRun_runs hG (wq15 (F:=F) (b:=z.2) (g:=g) (sky:=s.1.1) (body:=s.1.2) (x:=x.1) (Z:=z.1))) ?_
 generalize F.cen z.2 (x13of z.1)=d
 refine MeetR.pre (gRun_runs hG (wq16 (F:=F) (b:=d.2) (g:=g) (body:=s.1.2) (x:=x.1) (z:=d.1.x) (m:=d.1.m))) ?_
 generalize F.pro d.2 d.1.x d.1.x=p
 generalize F.pro p.2 x.1 d.1.x=c
 refine MeetR.pre (gRun_runs hG (wq17 (F:=F) (b:=c.2) (g:=g) (body:=s.1.2) (m:=d.1.m) (s:=p.1) (c:=c.1))) ?_
 generalize F.ont c.2 p.1 67108864 268435456=n
 refine MeetR.pre (gRun_runs hG (wq18 (F:=F) (b:=n.2) (g:=g) (body:=s.1.2) (m:=d.1.m) (s:=n.1) (c:=c.1))) ?_
 refine MeetR.pre ((gRun_runs hG (wq19 (F:=F) (b:=n.2) (g:=g) (m:=d.1.m) (s:=n.1) (c:=c.1) (Y:=(joinV s.1.2.a s.1.2.b).at))).seq (meLD (hG:=hG) (b:=n.2) (g:=g) (m:=d.1.m) (s:=n.1) (c:=c.1) (Y:=(joinV s.1.2.a s.1.2.b).at))) ?_
 generalize iterF (meFD F d.1.m) 0 6 ((joinV s.1.2.a s.1.2.b).at,n.2)=y
 refine MeetR.pre (gRun_runs hG (wq24 (F:=F) (b:=y.2) (g:=g) (m:=d.1.m) (s:=n.1) (c:=c.1) (Y:=y.1))) ?_
 generalize F.rt y.2 (n.1,6,())=l
 refine MeetR.pre (gRun_runs hG (wq25 (F:=F) (b:=l.2) (g:=g) (c:=c.1) (y:=R6.of y.1) (l:=l.1))) ?_
 refine MeetR.pre ((gRun_runs hG (wq26 (F:=F) (b:=l.2) (g:=g) (c:=c.1) (y:=R6.of y.1) (l:=l.1) (chi:=0))).seq (meLE (hG:=hG) (b:=(F.so l.2 (l.1,R6.of y.1,6,())).2) (g:=g) (c:=c.1) (y:=R6.of y.1) (l:=l.1) (u:=(F.so l.2 (l.1,R6.of y.1,6,())).1) (chi:=0))) ?_
 generalize F.so l.2 (l.1,R6.of y.1,6,())=u
 exact mid_runs hG g c.1 (R6.of y.1) l.1 _
end
theorem f21_is:Tryz.prog.funcs[21]?=some Tryz.f21:=by kernel_rfl
theorem okMeet{F:GOps}(hG:GamOk Tryz.prog (eE F).gam):SumOk Tryz.prog 21 (S 57 (meetO F)):=by
 intro args cs r cs' h
 obtain ⟨b,a,rfl,rfl,rfl,rfl⟩:=S_sel h
 have hr:=meet_runs hG b a
 obtain ⟨g,sky,body,u⟩:=a
 rcases hr with hr | hr
 ·refine sum_runs f21_is wC_is wN (by show 4≤248;omega) (by simp[row]) rfl rfl rfl (.inr rfl) hr (wRes ..) rfl rfl (fun b' c hb=>?_) rfl rfl
  match b',hb with
  | 0,hb=>cases hb;rfl
  | n+1,hb=>simp[row]at hb
 ·refine sum_runs f21_is wC_is wN (by show 4≤248;omega) (by simp[row]) rfl rfl rfl (.inr rfl) hr (wRes2 ..) rfl rfl (fun b' c hb=>?_) rfl rfl
  match b',hb with
  | 0,hb=>cases hb;rfl
  | n+1,hb=>simp[row]at hb
end Go.Ab
