/- A part of the proofs: lemmas, no statement of their own; no condition. -/
import Derived.Test.YtoocjipllmkjcaaGreatGFjD
import Derived.Test.YtoocjipllmkjcaaGreatGOrA
import Derived.Test.YtoocjipllmkjcaaGreatGFuB
import Derived.Test.YtoocjipllmkjcaaGreatGAbU
namespace Go.Ab
open Go Go.Proofs
structure GCB where
  g : Gs
  chi : Int
  ok : Bool
instance : Cod GCB where
  enc x:=.tuple #[Cod.enc x.g,.int .i64 x.chi,.bool x.ok]
  dec v:=match v with
    | .tuple ⟨[g,.int .i64 c,.bool o]⟩=>match Cod.dec g with | some x=>some ⟨x,c,o⟩ | none=>none
    | _=>none
  law v x h:=by
    split at h
    · split at h
      · rename_i h1
        cases h
        rw [Cod.law _ _ h1]
      · cases h
    · cases h
def meFA (F : GOps) (i : Nat) (z : (P2 × P2) × Bool) : (P2 × P2) × Bool:=match i with | 0=>meA0 F z.1.1 z.1.2 z.2 | _=>meA1 F z.1.1 z.1.2 z.2
def meFB (F : GOps) (q : V4) (sky : P2) (x : X13) (k : Nat) (z : Mx × Bool) : Mx × Bool:=(setX z.1 k (meB F q sky (x.row k) z.2).1,(meB F q sky (x.row k) z.2).2)
def meFD (F : GOps) (m : R6) (i : Nat) (z : (Nat→Int) × Bool) : (Nat→Int) × Bool:=(setR z.1 i (F.o.sub z.2 (z.1 i) (m.at i)).1,(F.o.sub z.2 (z.1 i) (m.at i)).2)
def meFE (F : GOps) (y u : R6) (i : Nat) (z : Int × Bool) : Int × Bool:=meE F z.1 (y.at i) (u.at i) z.2
def meFF (F : GOps) (l c : M6) (i : Nat) (z : Mx × Bool) : Mx × Bool:=(setX z.1 i (F.so z.2 (l,c.row i,6,())).1,(F.so z.2 (l,c.row i,6,())).2)
def meFJ (F : GOps) (P k c : Mx) (i j : Nat) (z : Mx × Bool) : Mx × Bool:=(setM z.1 i j (meT F P k c i j z.2).1,(meT F P k c i j z.2).2)
def meFG (F : GOps) (P k c : Mx) (i : Nat) (z : Mx × Bool) : Mx × Bool:=iterF (meFJ F P k c i) 0 6 z
def meFH (F : GOps) (T : Mx) (i : Nat) (z : Mx × Bool) : Mx × Bool:=meH F.o T i 0 6 z
section
variable {F : GOps} (hG : GamOk Tryz.prog (eE F).gam) (b : Bool) (g : Gs) (sky body : P2) (x : X13) (Z : Mx) (m y u : R6) (s c l : M6) (Y : Nat→Int) (chi : Int) (k T p : Mx)
include hG
theorem meLA_r0 (z : (P2 × P2) × Bool) : RunsTo Tryz.prog 248 wA (wSA 0 g z.1.1 z.1.2 z.2) .normal (wSA 1 g (meFA F 0 z).1.1 (meFA F 0 z).1.2 (meFA F 0 z).2):=gCut_runs hG (wqA_0 (F:=F) (b:=z.2) (g:=g) (sky:=z.1.1) (body:=z.1.2)) (lo_wSA ..) (ok_wSA ..) rfl
theorem meLA_r1 (z : (P2 × P2) × Bool) : RunsTo Tryz.prog 248 wA (wSA 1 g z.1.1 z.1.2 z.2) .normal (wSA 2 g (meFA F 1 z).1.1 (meFA F 1 z).1.2 (meFA F 1 z).2):=gCut_runs hG (wqA_1 (F:=F) (b:=z.2) (g:=g) (sky:=z.1.1) (body:=z.1.2)) (lo_wSA ..) (ok_wSA ..) rfl
theorem meLA_r2 (z : (P2 × P2) × Bool) : RunsTo Tryz.prog 248 wA (wSA 2 g z.1.1 z.1.2 z.2) (.exit 0) (wS0 g z.1.1 z.1.2 z.2):=gCut_runs hG (wqA_2 (F:=F) (b:=z.2) (g:=g) (sky:=z.1.1) (body:=z.1.2)) (lo_wSA ..) (ok_wS0 ..) rfl
theorem meLA : RunsTo Tryz.prog 248 (.block 0 (.loop wA)) (wSA 0 g ((sky,body),b).1.1 ((sky,body),b).1.2 ((sky,body),b).2) .normal (wS0 g (iterF (meFA F) 0 2 ((sky,body),b)).1.1 (iterF (meFA F) 0 2 ((sky,body),b)).1.2 (iterF (meFA F) 0 2 ((sky,body),b)).2) :=
  RunsTo.rounds (P:=Tryz.prog) (N:=248) (c:=wA) (id:=0) 2 (fun i z=>wSA i g z.1.1 z.1.2 z.2) (fun z=>wS0 g z.1.1 z.1.2 z.2) (meFA F)
    (fun i z=>below2 (p:=fun i=>RunsTo Tryz.prog 248 wA (wSA i g z.1.1 z.1.2 z.2) .normal (wSA (i + 1 : Nat) g (meFA F i z).1.1 (meFA F i z).1.2 (meFA F i z).2))
      (meLA_r0 (hG:=hG) (g:=g)   (z:=z))
      (meLA_r1 (hG:=hG) (g:=g)   (z:=z))
      i)
    (fun z=>meLA_r2 (hG:=hG) (g:=g)   (z:=z)) ((sky,body),b)
theorem meLB_r0 (z : Mx × Bool) : RunsTo Tryz.prog 248 wB (wSB 0 g sky body x z.1 z.2) .normal (wSB 1 g sky body x (meFB F g.q sky x 0 z).1 (meFB F g.q sky x 0 z).2):=gCut_runs hG (wqB_0 (F:=F) (b:=z.2) (g:=g) (sky:=sky) (body:=body) (x:=x) (Z:=z.1)) (lo_wSB ..) (ok_wSB ..) rfl
theorem meLB_r1 (z : Mx × Bool) : RunsTo Tryz.prog 248 wB (wSB 1 g sky body x z.1 z.2) .normal (wSB 2 g sky body x (meFB F g.q sky x 1 z).1 (meFB F g.q sky x 1 z).2):=gCut_runs hG (wqB_1 (F:=F) (b:=z.2) (g:=g) (sky:=sky) (body:=body) (x:=x) (Z:=z.1)) (lo_wSB ..) (ok_wSB ..) rfl
theorem meLB_r2 (z : Mx × Bool) : RunsTo Tryz.prog 248 wB (wSB 2 g sky body x z.1 z.2) .normal (wSB 3 g sky body x (meFB F g.q sky x 2 z).1 (meFB F g.q sky x 2 z).2):=gCut_runs hG (wqB_2 (F:=F) (b:=z.2) (g:=g) (sky:=sky) (body:=body) (x:=x) (Z:=z.1)) (lo_wSB ..) (ok_wSB ..) rfl
theorem meLB_r3 (z : Mx × Bool) : RunsTo Tryz.prog 248 wB (wSB 3 g sky body x z.1 z.2) .normal (wSB 4 g sky body x (meFB F g.q sky x 3 z).1 (meFB F g.q sky x 3 z).2):=gCut_runs hG (wqB_3 (F:=F) (b:=z.2) (g:=g) (sky:=sky) (body:=body) (x:=x) (Z:=z.1)) (lo_wSB ..) (ok_wSB ..) rfl
theorem meLB_r4 (z : Mx × Bool) : RunsTo Tryz.prog 248 wB (wSB 4 g sky body x z.1 z.2) .normal (wSB 5 g sky body x (meFB F g.q sky x 4 z).1 (meFB F g.q sky x 4 z).2):=gCut_runs hG (wqB_4 (F:=F) (b:=z.2) (g:=g) (sky:=sky) (body:=body) (x:=x) (Z:=z.1)) (lo_wSB ..) (ok_wSB ..) rfl
theorem meLB_r5 (z : Mx × Bool) : RunsTo Tryz.prog 248 wB (wSB 5 g sky body x z.1 z.2) .normal (wSB 6 g sky body x (meFB F g.q sky x 5 z).1 (meFB F g.q sky x 5 z).2):=gCut_runs hG (wqB_5 (F:=F) (b:=z.2) (g:=g) (sky:=sky) (body:=body) (x:=x) (Z:=z.1)) (lo_wSB ..) (ok_wSB ..) rfl
theorem meLB_r6 (z : Mx × Bool) : RunsTo Tryz.prog 248 wB (wSB 6 g sky body x z.1 z.2) .normal (wSB 7 g sky body x (meFB F g.q sky x 6 z).1 (meFB F g.q sky x 6 z).2):=gCut_runs hG (wqB_6 (F:=F) (b:=z.2) (g:=g) (sky:=sky) (body:=body) (x:=x) (Z:=z.1)) (lo_wSB ..) (ok_wSB ..) rfl
theorem meLB_r7 (z : Mx × Bool) : RunsTo Tryz.prog 248 wB (wSB 7 g sky body x z.1 z.2) .normal (wSB 8 g sky body x (meFB F g.q sky x 7 z).1 (meFB F g.q sky x 7 z).2):=gCut_runs hG (wqB_7 (F:=F) (b:=z.2) (g:=g) (sky:=sky) (body:=body) (x:=x) (Z:=z.1)) (lo_wSB ..) (ok_wSB ..) rfl
theorem meLB_r8 (z : Mx × Bool) : RunsTo Tryz.prog 248 wB (wSB 8 g sky body x z.1 z.2) .normal (wSB 9 g sky body x (meFB F g.q sky x 8 z).1 (meFB F g.q sky x 8 z).2):=gCut_runs hG (wqB_8 (F:=F) (b:=z.2) (g:=g) (sky:=sky) (body:=body) (x:=x) (Z:=z.1)) (lo_wSB ..) (ok_wSB ..) rfl
theorem meLB_r9 (z : Mx × Bool) : RunsTo Tryz.prog 248 wB (wSB 9 g sky body x z.1 z.2) .normal (wSB 10 g sky body x (meFB F g.q sky x 9 z).1 (meFB F g.q sky x 9 z).2):=gCut_runs hG (wqB_9 (F:=F) (b:=z.2) (g:=g) (sky:=sky) (body:=body) (x:=x) (Z:=z.1)) (lo_wSB ..) (ok_wSB ..) rfl
theorem meLB_r10 (z : Mx × Bool) : RunsTo Tryz.prog 248 wB (wSB 10 g sky body x z.1 z.2) .normal (wSB 11 g sky body x (meFB F g.q sky x 10 z).1 (meFB F g.q sky x 10 z).2):=gCut_runs hG (wqB_10 (F:=F) (b:=z.2) (g:=g) (sky:=sky) (body:=body) (x:=x) (Z:=z.1)) (lo_wSB ..) (ok_wSB ..) rfl
theorem meLB_r11 (z : Mx × Bool) : RunsTo Tryz.prog 248 wB (wSB 11 g sky body x z.1 z.2) .normal (wSB 12 g sky body x (meFB F g.q sky x 11 z).1 (meFB F g.q sky x 11 z).2):=gCut_runs hG (wqB_11 (F:=F) (b:=z.2) (g:=g) (sky:=sky) (body:=body) (x:=x) (Z:=z.1)) (lo_wSB ..) (ok_wSB ..) rfl
theorem meLB_r12 (z : Mx × Bool) : RunsTo Tryz.prog 248 wB (wSB 12 g sky body x z.1 z.2) .normal (wSB 13 g sky body x (meFB F g.q sky x 12 z).1 (meFB F g.q sky x 12 z).2):=gCut_runs hG (wqB_12 (F:=F) (b:=z.2) (g:=g) (sky:=sky) (body:=body) (x:=x) (Z:=z.1)) (lo_wSB ..) (ok_wSB ..) rfl
theorem meLB_r13 (z : Mx × Bool) : RunsTo Tryz.prog 248 wB (wSB 13 g sky body x z.1 z.2) (.exit 2) (wS7 g sky body x z.1 z.2):=gCut_runs hG (wqB_13 (F:=F) (b:=z.2) (g:=g) (sky:=sky) (body:=body) (x:=x) (Z:=z.1)) (lo_wSB ..) (ok_wS7 ..) rfl
theorem meLB : RunsTo Tryz.prog 248 (.block 2 (.loop wB)) (wSB 0 g sky body x (Z,b).1 (Z,b).2) .normal (wS7 g sky body x (iterF (meFB F g.q sky x) 0 13 (Z,b)).1 (iterF (meFB F g.q sky x) 0 13 (Z,b)).2) :=
  RunsTo.rounds (P:=Tryz.prog) (N:=248) (c:=wB) (id:=2) 13 (fun i z=>wSB i g sky body x z.1 z.2) (fun z=>wS7 g sky body x z.1 z.2) (meFB F g.q sky x)
    (fun i z=>below13 (p:=fun i=>RunsTo Tryz.prog 248 wB (wSB i g sky body x z.1 z.2) .normal (wSB (i + 1 : Nat) g sky body x (meFB F g.q sky x i z).1 (meFB F g.q sky x i z).2))
      (meLB_r0 (hG:=hG) (g:=g) (sky:=sky) (body:=body) (x:=x)  (z:=z))
      (meLB_r1 (hG:=hG) (g:=g) (sky:=sky) (body:=body) (x:=x)  (z:=z))
      (meLB_r2 (hG:=hG) (g:=g) (sky:=sky) (body:=body) (x:=x)  (z:=z))
      (meLB_r3 (hG:=hG) (g:=g) (sky:=sky) (body:=body) (x:=x)  (z:=z))
      (meLB_r4 (hG:=hG) (g:=g) (sky:=sky) (body:=body) (x:=x)  (z:=z))
      (meLB_r5 (hG:=hG) (g:=g) (sky:=sky) (body:=body) (x:=x)  (z:=z))
      (meLB_r6 (hG:=hG) (g:=g) (sky:=sky) (body:=body) (x:=x)  (z:=z))
      (meLB_r7 (hG:=hG) (g:=g) (sky:=sky) (body:=body) (x:=x)  (z:=z))
      (meLB_r8 (hG:=hG) (g:=g) (sky:=sky) (body:=body) (x:=x)  (z:=z))
      (meLB_r9 (hG:=hG) (g:=g) (sky:=sky) (body:=body) (x:=x)  (z:=z))
      (meLB_r10 (hG:=hG) (g:=g) (sky:=sky) (body:=body) (x:=x)  (z:=z))
      (meLB_r11 (hG:=hG) (g:=g) (sky:=sky) (body:=body) (x:=x)  (z:=z))
      (meLB_r12 (hG:=hG) (g:=g) (sky:=sky) (body:=body) (x:=x)  (z:=z))
      i)
    (fun z=>meLB_r13 (hG:=hG) (g:=g) (sky:=sky) (body:=body) (x:=x)  (z:=z)) (Z,b)
theorem meLD_r0 (z : (Nat→Int) × Bool) : RunsTo Tryz.prog 248 wD (wSD 0 g m s c z.1 z.2) .normal (wSD 1 g m s c (meFD F m 0 z).1 (meFD F m 0 z).2):=gCut_runs hG (wqD_0 (F:=F) (b:=z.2) (g:=g) (m:=m) (s:=s) (c:=c) (Y:=z.1)) (lo_wSD ..) (ok_wSD ..) rfl
theorem meLD_r1 (z : (Nat→Int) × Bool) : RunsTo Tryz.prog 248 wD (wSD 1 g m s c z.1 z.2) .normal (wSD 2 g m s c (meFD F m 1 z).1 (meFD F m 1 z).2):=gCut_runs hG (wqD_1 (F:=F) (b:=z.2) (g:=g) (m:=m) (s:=s) (c:=c) (Y:=z.1)) (lo_wSD ..) (ok_wSD ..) rfl
theorem meLD_r2 (z : (Nat→Int) × Bool) : RunsTo Tryz.prog 248 wD (wSD 2 g m s c z.1 z.2) .normal (wSD 3 g m s c (meFD F m 2 z).1 (meFD F m 2 z).2):=gCut_runs hG (wqD_2 (F:=F) (b:=z.2) (g:=g) (m:=m) (s:=s) (c:=c) (Y:=z.1)) (lo_wSD ..) (ok_wSD ..) rfl
theorem meLD_r3 (z : (Nat→Int) × Bool) : RunsTo Tryz.prog 248 wD (wSD 3 g m s c z.1 z.2) .normal (wSD 4 g m s c (meFD F m 3 z).1 (meFD F m 3 z).2):=gCut_runs hG (wqD_3 (F:=F) (b:=z.2) (g:=g) (m:=m) (s:=s) (c:=c) (Y:=z.1)) (lo_wSD ..) (ok_wSD ..) rfl
theorem meLD_r4 (z : (Nat→Int) × Bool) : RunsTo Tryz.prog 248 wD (wSD 4 g m s c z.1 z.2) .normal (wSD 5 g m s c (meFD F m 4 z).1 (meFD F m 4 z).2):=gCut_runs hG (wqD_4 (F:=F) (b:=z.2) (g:=g) (m:=m) (s:=s) (c:=c) (Y:=z.1)) (lo_wSD ..) (ok_wSD ..) rfl
theorem meLD_r5 (z : (Nat→Int) × Bool) : RunsTo Tryz.prog 248 wD (wSD 5 g m s c z.1 z.2) .normal (wSD 6 g m s c (meFD F m 5 z).1 (meFD F m 5 z).2):=gCut_runs hG (wqD_5 (F:=F) (b:=z.2) (g:=g) (m:=m) (s:=s) (c:=c) (Y:=z.1)) (lo_wSD ..) (ok_wSD ..) rfl
theorem meLD_r6 (z : (Nat→Int) × Bool) : RunsTo Tryz.prog 248 wD (wSD 6 g m s c z.1 z.2) (.exit 4) (wS18 g m s c z.1 z.2):=gCut_runs hG (wqD_6 (F:=F) (b:=z.2) (g:=g) (m:=m) (s:=s) (c:=c) (Y:=z.1)) (lo_wSD ..) (ok_wS18 ..) rfl
theorem meLD : RunsTo Tryz.prog 248 (.block 4 (.loop wD)) (wSD 0 g m s c (Y,b).1 (Y,b).2) .normal (wS18 g m s c (iterF (meFD F m) 0 6 (Y,b)).1 (iterF (meFD F m) 0 6 (Y,b)).2) :=
  RunsTo.rounds (P:=Tryz.prog) (N:=248) (c:=wD) (id:=4) 6 (fun i z=>wSD i g m s c z.1 z.2) (fun z=>wS18 g m s c z.1 z.2) (meFD F m)
    (fun i z=>below6 (p:=fun i=>RunsTo Tryz.prog 248 wD (wSD i g m s c z.1 z.2) .normal (wSD (i + 1 : Nat) g m s c (meFD F m i z).1 (meFD F m i z).2))
      (meLD_r0 (hG:=hG) (g:=g) (m:=m) (s:=s) (c:=c)  (z:=z))
      (meLD_r1 (hG:=hG) (g:=g) (m:=m) (s:=s) (c:=c)  (z:=z))
      (meLD_r2 (hG:=hG) (g:=g) (m:=m) (s:=s) (c:=c)  (z:=z))
      (meLD_r3 (hG:=hG) (g:=g) (m:=m) (s:=s) (c:=c)  (z:=z))
      (meLD_r4 (hG:=hG) (g:=g) (m:=m) (s:=s) (c:=c)  (z:=z))
      (meLD_r5 (hG:=hG) (g:=g) (m:=m) (s:=s) (c:=c)  (z:=z))
      i)
    (fun z=>meLD_r6 (hG:=hG) (g:=g) (m:=m) (s:=s) (c:=c)  (z:=z)) (Y,b)
theorem meLE_r0 (z : Int × Bool) : RunsTo Tryz.prog 248 wE (wSE 0 g c y l u z.1 z.2) .normal (wSE 1 g c y l u (meFE F y u 0 z).1 (meFE F y u 0 z).2):=gCut_runs hG (wqE_0 (F:=F) (b:=z.2) (g:=g) (y:=y) (u:=u) (c:=c) (l:=l) (chi:=z.1)) (lo_wSE ..) (ok_wSE ..) rfl
theorem meLE_r1 (z : Int × Bool) : RunsTo Tryz.prog 248 wE (wSE 1 g c y l u z.1 z.2) .normal (wSE 2 g c y l u (meFE F y u 1 z).1 (meFE F y u 1 z).2):=gCut_runs hG (wqE_1 (F:=F) (b:=z.2) (g:=g) (y:=y) (u:=u) (c:=c) (l:=l) (chi:=z.1)) (lo_wSE ..) (ok_wSE ..) rfl
theorem meLE_r2 (z : Int × Bool) : RunsTo Tryz.prog 248 wE (wSE 2 g c y l u z.1 z.2) .normal (wSE 3 g c y l u (meFE F y u 2 z).1 (meFE F y u 2 z).2):=gCut_runs hG (wqE_2 (F:=F) (b:=z.2) (g:=g) (y:=y) (u:=u) (c:=c) (l:=l) (chi:=z.1)) (lo_wSE ..) (ok_wSE ..) rfl
theorem meLE_r3 (z : Int × Bool) : RunsTo Tryz.prog 248 wE (wSE 3 g c y l u z.1 z.2) .normal (wSE 4 g c y l u (meFE F y u 3 z).1 (meFE F y u 3 z).2):=gCut_runs hG (wqE_3 (F:=F) (b:=z.2) (g:=g) (y:=y) (u:=u) (c:=c) (l:=l) (chi:=z.1)) (lo_wSE ..) (ok_wSE ..) rfl
theorem meLE_r4 (z : Int × Bool) : RunsTo Tryz.prog 248 wE (wSE 4 g c y l u z.1 z.2) .normal (wSE 5 g c y l u (meFE F y u 4 z).1 (meFE F y u 4 z).2):=gCut_runs hG (wqE_4 (F:=F) (b:=z.2) (g:=g) (y:=y) (u:=u) (c:=c) (l:=l) (chi:=z.1)) (lo_wSE ..) (ok_wSE ..) rfl
theorem meLE_r5 (z : Int × Bool) : RunsTo Tryz.prog 248 wE (wSE 5 g c y l u z.1 z.2) .normal (wSE 6 g c y l u (meFE F y u 5 z).1 (meFE F y u 5 z).2):=gCut_runs hG (wqE_5 (F:=F) (b:=z.2) (g:=g) (y:=y) (u:=u) (c:=c) (l:=l) (chi:=z.1)) (lo_wSE ..) (ok_wSE ..) rfl
theorem meLE_r6 (z : Int × Bool) : RunsTo Tryz.prog 248 wE (wSE 6 g c y l u z.1 z.2) (.exit 6) (wS25 g c y l z.1 z.2):=gCut_runs hG (wqE_6 (F:=F) (b:=z.2) (g:=g) (y:=y) (u:=u) (c:=c) (l:=l) (chi:=z.1)) (lo_wSE ..) (ok_wS25 ..) rfl
theorem meLE : RunsTo Tryz.prog 248 (.block 6 (.loop wE)) (wSE 0 g c y l u (chi,b).1 (chi,b).2) .normal (wS25 g c y l (iterF (meFE F y u) 0 6 (chi,b)).1 (iterF (meFE F y u) 0 6 (chi,b)).2) :=
  RunsTo.rounds (P:=Tryz.prog) (N:=248) (c:=wE) (id:=6) 6 (fun i z=>wSE i g c y l u z.1 z.2) (fun z=>wS25 g c y l z.1 z.2) (meFE F y u)
    (fun i z=>below6 (p:=fun i=>RunsTo Tryz.prog 248 wE (wSE i g c y l u z.1 z.2) .normal (wSE (i + 1 : Nat) g c y l u (meFE F y u i z).1 (meFE F y u i z).2))
      (meLE_r0 (hG:=hG) (g:=g) (y:=y) (u:=u) (c:=c) (l:=l)  (z:=z))
      (meLE_r1 (hG:=hG) (g:=g) (y:=y) (u:=u) (c:=c) (l:=l)  (z:=z))
      (meLE_r2 (hG:=hG) (g:=g) (y:=y) (u:=u) (c:=c) (l:=l)  (z:=z))
      (meLE_r3 (hG:=hG) (g:=g) (y:=y) (u:=u) (c:=c) (l:=l)  (z:=z))
      (meLE_r4 (hG:=hG) (g:=g) (y:=y) (u:=u) (c:=c) (l:=l)  (z:=z))
      (meLE_r5 (hG:=hG) (g:=g) (y:=y) (u:=u) (c:=c) (l:=l)  (z:=z))
      i)
    (fun z=>meLE_r6 (hG:=hG) (g:=g) (y:=y) (u:=u) (c:=c) (l:=l)  (z:=z)) (chi,b)
theorem meLF_r0 (z : Mx × Bool) : RunsTo Tryz.prog 248 wF (wSF 0 g c y l chi z.1 T p z.2) .normal (wSF 1 g c y l chi (meFF F l c 0 z).1 T p (meFF F l c 0 z).2):=gCut_runs hG (wqF_0 (F:=F) (b:=z.2) (g:=g) (y:=y) (c:=c) (l:=l) (chi:=chi) (k:=z.1) (T:=T) (p:=p)) (lo_wSF ..) (ok_wSF ..) rfl
theorem meLF_r1 (z : Mx × Bool) : RunsTo Tryz.prog 248 wF (wSF 1 g c y l chi z.1 T p z.2) .normal (wSF 2 g c y l chi (meFF F l c 1 z).1 T p (meFF F l c 1 z).2):=gCut_runs hG (wqF_1 (F:=F) (b:=z.2) (g:=g) (y:=y) (c:=c) (l:=l) (chi:=chi) (k:=z.1) (T:=T) (p:=p)) (lo_wSF ..) (ok_wSF ..) rfl
theorem meLF_r2 (z : Mx × Bool) : RunsTo Tryz.prog 248 wF (wSF 2 g c y l chi z.1 T p z.2) .normal (wSF 3 g c y l chi (meFF F l c 2 z).1 T p (meFF F l c 2 z).2):=gCut_runs hG (wqF_2 (F:=F) (b:=z.2) (g:=g) (y:=y) (c:=c) (l:=l) (chi:=chi) (k:=z.1) (T:=T) (p:=p)) (lo_wSF ..) (ok_wSF ..) rfl
theorem meLF_r3 (z : Mx × Bool) : RunsTo Tryz.prog 248 wF (wSF 3 g c y l chi z.1 T p z.2) .normal (wSF 4 g c y l chi (meFF F l c 3 z).1 T p (meFF F l c 3 z).2):=gCut_runs hG (wqF_3 (F:=F) (b:=z.2) (g:=g) (y:=y) (c:=c) (l:=l) (chi:=chi) (k:=z.1) (T:=T) (p:=p)) (lo_wSF ..) (ok_wSF ..) rfl
theorem meLF_r4 (z : Mx × Bool) : RunsTo Tryz.prog 248 wF (wSF 4 g c y l chi z.1 T p z.2) .normal (wSF 5 g c y l chi (meFF F l c 4 z).1 T p (meFF F l c 4 z).2):=gCut_runs hG (wqF_4 (F:=F) (b:=z.2) (g:=g) (y:=y) (c:=c) (l:=l) (chi:=chi) (k:=z.1) (T:=T) (p:=p)) (lo_wSF ..) (ok_wSF ..) rfl
theorem meLF_r5 (z : Mx × Bool) : RunsTo Tryz.prog 248 wF (wSF 5 g c y l chi z.1 T p z.2) .normal (wSF 6 g c y l chi (meFF F l c 5 z).1 T p (meFF F l c 5 z).2):=gCut_runs hG (wqF_5 (F:=F) (b:=z.2) (g:=g) (y:=y) (c:=c) (l:=l) (chi:=chi) (k:=z.1) (T:=T) (p:=p)) (lo_wSF ..) (ok_wSF ..) rfl
theorem meLF_r6 (z : Mx × Bool) : RunsTo Tryz.prog 248 wF (wSF 6 g c y l chi z.1 T p z.2) (.exit 8) (wS35 g c y l chi z.1 T p z.2):=gCut_runs hG (wqF_6 (F:=F) (b:=z.2) (g:=g) (y:=y) (c:=c) (l:=l) (chi:=chi) (k:=z.1) (T:=T) (p:=p)) (lo_wSF ..) (ok_wS35 ..) rfl
theorem meLF : RunsTo Tryz.prog 248 (.block 8 (.loop wF)) (wSF 0 g c y l chi (k,b).1 T p (k,b).2) .normal (wS35 g c y l chi (iterF (meFF F l c) 0 6 (k,b)).1 T p (iterF (meFF F l c) 0 6 (k,b)).2) :=
  RunsTo.rounds (P:=Tryz.prog) (N:=248) (c:=wF) (id:=8) 6 (fun i z=>wSF i g c y l chi z.1 T p z.2) (fun z=>wS35 g c y l chi z.1 T p z.2) (meFF F l c)
    (fun i z=>below6 (p:=fun i=>RunsTo Tryz.prog 248 wF (wSF i g c y l chi z.1 T p z.2) .normal (wSF (i + 1 : Nat) g c y l chi (meFF F l c i z).1 T p (meFF F l c i z).2))
      (meLF_r0 (hG:=hG) (g:=g) (y:=y) (c:=c) (l:=l) (chi:=chi)  (T:=T) (p:=p) (z:=z))
      (meLF_r1 (hG:=hG) (g:=g) (y:=y) (c:=c) (l:=l) (chi:=chi)  (T:=T) (p:=p) (z:=z))
      (meLF_r2 (hG:=hG) (g:=g) (y:=y) (c:=c) (l:=l) (chi:=chi)  (T:=T) (p:=p) (z:=z))
      (meLF_r3 (hG:=hG) (g:=g) (y:=y) (c:=c) (l:=l) (chi:=chi)  (T:=T) (p:=p) (z:=z))
      (meLF_r4 (hG:=hG) (g:=g) (y:=y) (c:=c) (l:=l) (chi:=chi)  (T:=T) (p:=p) (z:=z))
      (meLF_r5 (hG:=hG) (g:=g) (y:=y) (c:=c) (l:=l) (chi:=chi)  (T:=T) (p:=p) (z:=z))
      i)
    (fun z=>meLF_r6 (hG:=hG) (g:=g) (y:=y) (c:=c) (l:=l) (chi:=chi)  (T:=T) (p:=p) (z:=z)) (k,b)
theorem meLH_r0 (z : Mx × Bool) : RunsTo Tryz.prog 248 wH (wSH 0 g c y l chi k T z.1 z.2) .normal (wSH 1 g c y l chi k T (meFH F T 0 z).1 (meFH F T 0 z).2):=gCut_runs hG (wqH_0 (F:=F) (b:=z.2) (g:=g) (y:=y) (c:=c) (l:=l) (chi:=chi) (k:=k) (T:=T) (p:=z.1)) (lo_wSH ..) (ok_wSH ..) rfl
theorem meLH_r1 (z : Mx × Bool) : RunsTo Tryz.prog 248 wH (wSH 1 g c y l chi k T z.1 z.2) .normal (wSH 2 g c y l chi k T (meFH F T 1 z).1 (meFH F T 1 z).2):=gCut_runs hG (wqH_1 (F:=F) (b:=z.2) (g:=g) (y:=y) (c:=c) (l:=l) (chi:=chi) (k:=k) (T:=T) (p:=z.1)) (lo_wSH ..) (ok_wSH ..) rfl
theorem meLH_r2 (z : Mx × Bool) : RunsTo Tryz.prog 248 wH (wSH 2 g c y l chi k T z.1 z.2) .normal (wSH 3 g c y l chi k T (meFH F T 2 z).1 (meFH F T 2 z).2):=gCut_runs hG (wqH_2 (F:=F) (b:=z.2) (g:=g) (y:=y) (c:=c) (l:=l) (chi:=chi) (k:=k) (T:=T) (p:=z.1)) (lo_wSH ..) (ok_wSH ..) rfl
theorem meLH_r3 (z : Mx × Bool) : RunsTo Tryz.prog 248 wH (wSH 3 g c y l chi k T z.1 z.2) .normal (wSH 4 g c y l chi k T (meFH F T 3 z).1 (meFH F T 3 z).2):=gCut_runs hG (wqH_3 (F:=F) (b:=z.2) (g:=g) (y:=y) (c:=c) (l:=l) (chi:=chi) (k:=k) (T:=T) (p:=z.1)) (lo_wSH ..) (ok_wSH ..) rfl
theorem meLH_r4 (z : Mx × Bool) : RunsTo Tryz.prog 248 wH (wSH 4 g c y l chi k T z.1 z.2) .normal (wSH 5 g c y l chi k T (meFH F T 4 z).1 (meFH F T 4 z).2):=gCut_runs hG (wqH_4 (F:=F) (b:=z.2) (g:=g) (y:=y) (c:=c) (l:=l) (chi:=chi) (k:=k) (T:=T) (p:=z.1)) (lo_wSH ..) (ok_wSH ..) rfl
theorem meLH_r5 (z : Mx × Bool) : RunsTo Tryz.prog 248 wH (wSH 5 g c y l chi k T z.1 z.2) .normal (wSH 6 g c y l chi k T (meFH F T 5 z).1 (meFH F T 5 z).2):=gCut_runs hG (wqH_5 (F:=F) (b:=z.2) (g:=g) (y:=y) (c:=c) (l:=l) (chi:=chi) (k:=k) (T:=T) (p:=z.1)) (lo_wSH ..) (ok_wSH ..) rfl
theorem meLH_r6 (z : Mx × Bool) : RunsTo Tryz.prog 248 wH (wSH 6 g c y l chi k T z.1 z.2) (.exit 16) (wS35 g c y l chi k T z.1 z.2):=gCut_runs hG (wqH_6 (F:=F) (b:=z.2) (g:=g) (y:=y) (c:=c) (l:=l) (chi:=chi) (k:=k) (T:=T) (p:=z.1)) (lo_wSH ..) (ok_wS35 ..) rfl
theorem meLH : RunsTo Tryz.prog 248 (.block 16 (.loop wH)) (wSH 0 g c y l chi k T (p,b).1 (p,b).2) .normal (wS35 g c y l chi k T (iterF (meFH F T) 0 6 (p,b)).1 (iterF (meFH F T) 0 6 (p,b)).2) :=
  RunsTo.rounds (P:=Tryz.prog) (N:=248) (c:=wH) (id:=16) 6 (fun i z=>wSH i g c y l chi k T z.1 z.2) (fun z=>wS35 g c y l chi k T z.1 z.2) (meFH F T)
    (fun i z=>below6 (p:=fun i=>RunsTo Tryz.prog 248 wH (wSH i g c y l chi k T z.1 z.2) .normal (wSH (i + 1 : Nat) g c y l chi k T (meFH F T i z).1 (meFH F T i z).2))
      (meLH_r0 (hG:=hG) (g:=g) (y:=y) (c:=c) (l:=l) (chi:=chi) (k:=k) (T:=T)  (z:=z))
      (meLH_r1 (hG:=hG) (g:=g) (y:=y) (c:=c) (l:=l) (chi:=chi) (k:=k) (T:=T)  (z:=z))
      (meLH_r2 (hG:=hG) (g:=g) (y:=y) (c:=c) (l:=l) (chi:=chi) (k:=k) (T:=T)  (z:=z))
      (meLH_r3 (hG:=hG) (g:=g) (y:=y) (c:=c) (l:=l) (chi:=chi) (k:=k) (T:=T)  (z:=z))
      (meLH_r4 (hG:=hG) (g:=g) (y:=y) (c:=c) (l:=l) (chi:=chi) (k:=k) (T:=T)  (z:=z))
      (meLH_r5 (hG:=hG) (g:=g) (y:=y) (c:=c) (l:=l) (chi:=chi) (k:=k) (T:=T)  (z:=z))
      i)
    (fun z=>meLH_r6 (hG:=hG) (g:=g) (y:=y) (c:=c) (l:=l) (chi:=chi) (k:=k) (T:=T)  (z:=z)) (p,b)
theorem meLJ_0_r0 (z : Mx × Bool) : RunsTo Tryz.prog 248 wGL (wSJ 0 0 g c y l chi k z.1 p z.2) .normal (wSJ 0 1 g c y l chi k (meFJ F g.p.at k c.at 0 0 z).1 p (meFJ F g.p.at k c.at 0 0 z).2):=gCut_runs hG (wqJ_0_0 (F:=F) (b:=z.2) (g:=g) (y:=y) (c:=c) (l:=l) (chi:=chi) (k:=k) (T:=z.1) (p:=p)) (lo_wSJ ..) (ok_wSJ ..) rfl
theorem meLJ_0_r1 (z : Mx × Bool) : RunsTo Tryz.prog 248 wGL (wSJ 0 1 g c y l chi k z.1 p z.2) .normal (wSJ 0 2 g c y l chi k (meFJ F g.p.at k c.at 0 1 z).1 p (meFJ F g.p.at k c.at 0 1 z).2):=gCut_runs hG (wqJ_0_1 (F:=F) (b:=z.2) (g:=g) (y:=y) (c:=c) (l:=l) (chi:=chi) (k:=k) (T:=z.1) (p:=p)) (lo_wSJ ..) (ok_wSJ ..) rfl
theorem meLJ_0_r2 (z : Mx × Bool) : RunsTo Tryz.prog 248 wGL (wSJ 0 2 g c y l chi k z.1 p z.2) .normal (wSJ 0 3 g c y l chi k (meFJ F g.p.at k c.at 0 2 z).1 p (meFJ F g.p.at k c.at 0 2 z).2):=gCut_runs hG (wqJ_0_2 (F:=F) (b:=z.2) (g:=g) (y:=y) (c:=c) (l:=l) (chi:=chi) (k:=k) (T:=z.1) (p:=p)) (lo_wSJ ..) (ok_wSJ ..) rfl
theorem meLJ_0_r3 (z : Mx × Bool) : RunsTo Tryz.prog 248 wGL (wSJ 0 3 g c y l chi k z.1 p z.2) .normal (wSJ 0 4 g c y l chi k (meFJ F g.p.at k c.at 0 3 z).1 p (meFJ F g.p.at k c.at 0 3 z).2):=gCut_runs hG (wqJ_0_3 (F:=F) (b:=z.2) (g:=g) (y:=y) (c:=c) (l:=l) (chi:=chi) (k:=k) (T:=z.1) (p:=p)) (lo_wSJ ..) (ok_wSJ ..) rfl
theorem meLJ_0_r4 (z : Mx × Bool) : RunsTo Tryz.prog 248 wGL (wSJ 0 4 g c y l chi k z.1 p z.2) .normal (wSJ 0 5 g c y l chi k (meFJ F g.p.at k c.at 0 4 z).1 p (meFJ F g.p.at k c.at 0 4 z).2):=gCut_runs hG (wqJ_0_4 (F:=F) (b:=z.2) (g:=g) (y:=y) (c:=c) (l:=l) (chi:=chi) (k:=k) (T:=z.1) (p:=p)) (lo_wSJ ..) (ok_wSJ ..) rfl
theorem meLJ_0_r5 (z : Mx × Bool) : RunsTo Tryz.prog 248 wGL (wSJ 0 5 g c y l chi k z.1 p z.2) .normal (wSJ 0 6 g c y l chi k (meFJ F g.p.at k c.at 0 5 z).1 p (meFJ F g.p.at k c.at 0 5 z).2):=gCut_runs hG (wqJ_0_5 (F:=F) (b:=z.2) (g:=g) (y:=y) (c:=c) (l:=l) (chi:=chi) (k:=k) (T:=z.1) (p:=p)) (lo_wSJ ..) (ok_wSJ ..) rfl
theorem meLJ_0_r6 (z : Mx × Bool) : RunsTo Tryz.prog 248 wGL (wSJ 0 6 g c y l chi k z.1 p z.2) (.exit 12) (wSG 0 g c y l chi k z.1 p z.2):=gCut_runs hG (wqJ_0_6 (F:=F) (b:=z.2) (g:=g) (y:=y) (c:=c) (l:=l) (chi:=chi) (k:=k) (T:=z.1) (p:=p)) (lo_wSJ ..) (ok_wSG ..) rfl
theorem meLJ_0 : RunsTo Tryz.prog 248 (.block 12 (.loop wGL)) (wSJ 0 0 g c y l chi k (T,b).1 p (T,b).2) .normal (wSG 0 g c y l chi k (iterF (meFJ F g.p.at k c.at 0) 0 6 (T,b)).1 p (iterF (meFJ F g.p.at k c.at 0) 0 6 (T,b)).2) :=
  RunsTo.rounds (P:=Tryz.prog) (N:=248) (c:=wGL) (id:=12) 6 (fun i z=>wSJ 0 i g c y l chi k z.1 p z.2) (fun z=>wSG 0 g c y l chi k z.1 p z.2) (meFJ F g.p.at k c.at 0)
    (fun i z=>below6 (p:=fun i=>RunsTo Tryz.prog 248 wGL (wSJ 0 i g c y l chi k z.1 p z.2) .normal (wSJ 0 (i + 1 : Nat) g c y l chi k (meFJ F g.p.at k c.at 0 i z).1 p (meFJ F g.p.at k c.at 0 i z).2))
      (meLJ_0_r0 (hG:=hG) (g:=g) (y:=y) (c:=c) (l:=l) (chi:=chi) (k:=k)  (p:=p) (z:=z))
      (meLJ_0_r1 (hG:=hG) (g:=g) (y:=y) (c:=c) (l:=l) (chi:=chi) (k:=k)  (p:=p) (z:=z))
      (meLJ_0_r2 (hG:=hG) (g:=g) (y:=y) (c:=c) (l:=l) (chi:=chi) (k:=k)  (p:=p) (z:=z))
      (meLJ_0_r3 (hG:=hG) (g:=g) (y:=y) (c:=c) (l:=l) (chi:=chi) (k:=k)  (p:=p) (z:=z))
      (meLJ_0_r4 (hG:=hG) (g:=g) (y:=y) (c:=c) (l:=l) (chi:=chi) (k:=k)  (p:=p) (z:=z))
      (meLJ_0_r5 (hG:=hG) (g:=g) (y:=y) (c:=c) (l:=l) (chi:=chi) (k:=k)  (p:=p) (z:=z))
      i)
    (fun z=>meLJ_0_r6 (hG:=hG) (g:=g) (y:=y) (c:=c) (l:=l) (chi:=chi) (k:=k)  (p:=p) (z:=z)) (T,b)
theorem meG_0 : RunsTo Tryz.prog 248 wG (wSG 0 g c y l chi k T p b) .normal (wSG 1 g c y l chi k (meFG F g.p.at k c.at 0 (T,b)).1 p (meFG F g.p.at k c.at 0 (T,b)).2):=by
  rw [wG_is]
  have h:=(gRun_runs hG (wqGc_0 (F:=F) (b:=b) (g:=g) (y:=y) (c:=c) (l:=l) (chi:=chi) (k:=k) (T:=T) (p:=p))).seq ((gRun_runs hG (wqGd_0 (F:=F) (b:=b) (g:=g) (y:=y) (c:=c) (l:=l) (chi:=chi) (k:=k) (T:=T) (p:=p))).seq (meLJ_0 hG b g y c l chi k T p))
  unfold meFG
  generalize iterF (meFJ F g.p.at k c.at 0) 0 6 (T,b) = z at h ⊢
  exact (gRun_runs hG (wqGa_0 (F:=F) (b:=b) (g:=g) (y:=y) (c:=c) (l:=l) (chi:=chi) (k:=k) (T:=T) (p:=p))).seq ((gRun_runs hG (wqGb_0 (F:=F) (b:=b) (g:=g) (y:=y) (c:=c) (l:=l) (chi:=chi) (k:=k) (T:=T) (p:=p))).seq ((h.block (.inl rfl)).seq (gRun_runs hG (wqGe_0 (F:=F) (b:=z.2) (g:=g) (y:=y) (c:=c) (l:=l) (chi:=chi) (k:=k) (T:=z.1) (p:=p)))))
theorem meLJ_1_r0 (z : Mx × Bool) : RunsTo Tryz.prog 248 wGL (wSJ 1 0 g c y l chi k z.1 p z.2) .normal (wSJ 1 1 g c y l chi k (meFJ F g.p.at k c.at 1 0 z).1 p (meFJ F g.p.at k c.at 1 0 z).2):=gCut_runs hG (wqJ_1_0 (F:=F) (b:=z.2) (g:=g) (y:=y) (c:=c) (l:=l) (chi:=chi) (k:=k) (T:=z.1) (p:=p)) (lo_wSJ ..) (ok_wSJ ..) rfl
theorem meLJ_1_r1 (z : Mx × Bool) : RunsTo Tryz.prog 248 wGL (wSJ 1 1 g c y l chi k z.1 p z.2) .normal (wSJ 1 2 g c y l chi k (meFJ F g.p.at k c.at 1 1 z).1 p (meFJ F g.p.at k c.at 1 1 z).2):=gCut_runs hG (wqJ_1_1 (F:=F) (b:=z.2) (g:=g) (y:=y) (c:=c) (l:=l) (chi:=chi) (k:=k) (T:=z.1) (p:=p)) (lo_wSJ ..) (ok_wSJ ..) rfl
theorem meLJ_1_r2 (z : Mx × Bool) : RunsTo Tryz.prog 248 wGL (wSJ 1 2 g c y l chi k z.1 p z.2) .normal (wSJ 1 3 g c y l chi k (meFJ F g.p.at k c.at 1 2 z).1 p (meFJ F g.p.at k c.at 1 2 z).2):=gCut_runs hG (wqJ_1_2 (F:=F) (b:=z.2) (g:=g) (y:=y) (c:=c) (l:=l) (chi:=chi) (k:=k) (T:=z.1) (p:=p)) (lo_wSJ ..) (ok_wSJ ..) rfl
theorem meLJ_1_r3 (z : Mx × Bool) : RunsTo Tryz.prog 248 wGL (wSJ 1 3 g c y l chi k z.1 p z.2) .normal (wSJ 1 4 g c y l chi k (meFJ F g.p.at k c.at 1 3 z).1 p (meFJ F g.p.at k c.at 1 3 z).2):=gCut_runs hG (wqJ_1_3 (F:=F) (b:=z.2) (g:=g) (y:=y) (c:=c) (l:=l) (chi:=chi) (k:=k) (T:=z.1) (p:=p)) (lo_wSJ ..) (ok_wSJ ..) rfl
theorem meLJ_1_r4 (z : Mx × Bool) : RunsTo Tryz.prog 248 wGL (wSJ 1 4 g c y l chi k z.1 p z.2) .normal (wSJ 1 5 g c y l chi k (meFJ F g.p.at k c.at 1 4 z).1 p (meFJ F g.p.at k c.at 1 4 z).2):=gCut_runs hG (wqJ_1_4 (F:=F) (b:=z.2) (g:=g) (y:=y) (c:=c) (l:=l) (chi:=chi) (k:=k) (T:=z.1) (p:=p)) (lo_wSJ ..) (ok_wSJ ..) rfl
theorem meLJ_1_r5 (z : Mx × Bool) : RunsTo Tryz.prog 248 wGL (wSJ 1 5 g c y l chi k z.1 p z.2) .normal (wSJ 1 6 g c y l chi k (meFJ F g.p.at k c.at 1 5 z).1 p (meFJ F g.p.at k c.at 1 5 z).2):=gCut_runs hG (wqJ_1_5 (F:=F) (b:=z.2) (g:=g) (y:=y) (c:=c) (l:=l) (chi:=chi) (k:=k) (T:=z.1) (p:=p)) (lo_wSJ ..) (ok_wSJ ..) rfl
theorem meLJ_1_r6 (z : Mx × Bool) : RunsTo Tryz.prog 248 wGL (wSJ 1 6 g c y l chi k z.1 p z.2) (.exit 12) (wSG 1 g c y l chi k z.1 p z.2):=gCut_runs hG (wqJ_1_6 (F:=F) (b:=z.2) (g:=g) (y:=y) (c:=c) (l:=l) (chi:=chi) (k:=k) (T:=z.1) (p:=p)) (lo_wSJ ..) (ok_wSG ..) rfl
theorem meLJ_1 : RunsTo Tryz.prog 248 (.block 12 (.loop wGL)) (wSJ 1 0 g c y l chi k (T,b).1 p (T,b).2) .normal (wSG 1 g c y l chi k (iterF (meFJ F g.p.at k c.at 1) 0 6 (T,b)).1 p (iterF (meFJ F g.p.at k c.at 1) 0 6 (T,b)).2) :=
  RunsTo.rounds (P:=Tryz.prog) (N:=248) (c:=wGL) (id:=12) 6 (fun i z=>wSJ 1 i g c y l chi k z.1 p z.2) (fun z=>wSG 1 g c y l chi k z.1 p z.2) (meFJ F g.p.at k c.at 1)
    (fun i z=>below6 (p:=fun i=>RunsTo Tryz.prog 248 wGL (wSJ 1 i g c y l chi k z.1 p z.2) .normal (wSJ 1 (i + 1 : Nat) g c y l chi k (meFJ F g.p.at k c.at 1 i z).1 p (meFJ F g.p.at k c.at 1 i z).2))
      (meLJ_1_r0 (hG:=hG) (g:=g) (y:=y) (c:=c) (l:=l) (chi:=chi) (k:=k)  (p:=p) (z:=z))
      (meLJ_1_r1 (hG:=hG) (g:=g) (y:=y) (c:=c) (l:=l) (chi:=chi) (k:=k)  (p:=p) (z:=z))
      (meLJ_1_r2 (hG:=hG) (g:=g) (y:=y) (c:=c) (l:=l) (chi:=chi) (k:=k)  (p:=p) (z:=z))
      (meLJ_1_r3 (hG:=hG) (g:=g) (y:=y) (c:=c) (l:=l) (chi:=chi) (k:=k)  (p:=p) (z:=z))
      (meLJ_1_r4 (hG:=hG) (g:=g) (y:=y) (c:=c) (l:=l) (chi:=chi) (k:=k)  (p:=p) (z:=z))
      (meLJ_1_r5 (hG:=hG) (g:=g) (y:=y) (c:=c) (l:=l) (chi:=chi) (k:=k)  (p:=p) (z:=z))
      i)
    (fun z=>meLJ_1_r6 (hG:=hG) (g:=g) (y:=y) (c:=c) (l:=l) (chi:=chi) (k:=k)  (p:=p) (z:=z)) (T,b)
theorem meG_1 : RunsTo Tryz.prog 248 wG (wSG 1 g c y l chi k T p b) .normal (wSG 2 g c y l chi k (meFG F g.p.at k c.at 1 (T,b)).1 p (meFG F g.p.at k c.at 1 (T,b)).2):=by
  rw [wG_is]
  have h:=(gRun_runs hG (wqGc_1 (F:=F) (b:=b) (g:=g) (y:=y) (c:=c) (l:=l) (chi:=chi) (k:=k) (T:=T) (p:=p))).seq ((gRun_runs hG (wqGd_1 (F:=F) (b:=b) (g:=g) (y:=y) (c:=c) (l:=l) (chi:=chi) (k:=k) (T:=T) (p:=p))).seq (meLJ_1 hG b g y c l chi k T p))
  unfold meFG
  generalize iterF (meFJ F g.p.at k c.at 1) 0 6 (T,b) = z at h ⊢
  exact (gRun_runs hG (wqGa_1 (F:=F) (b:=b) (g:=g) (y:=y) (c:=c) (l:=l) (chi:=chi) (k:=k) (T:=T) (p:=p))).seq ((gRun_runs hG (wqGb_1 (F:=F) (b:=b) (g:=g) (y:=y) (c:=c) (l:=l) (chi:=chi) (k:=k) (T:=T) (p:=p))).seq ((h.block (.inl rfl)).seq (gRun_runs hG (wqGe_1 (F:=F) (b:=z.2) (g:=g) (y:=y) (c:=c) (l:=l) (chi:=chi) (k:=k) (T:=z.1) (p:=p)))))
theorem meLJ_2_r0 (z : Mx × Bool) : RunsTo Tryz.prog 248 wGL (wSJ 2 0 g c y l chi k z.1 p z.2) .normal (wSJ 2 1 g c y l chi k (meFJ F g.p.at k c.at 2 0 z).1 p (meFJ F g.p.at k c.at 2 0 z).2):=gCut_runs hG (wqJ_2_0 (F:=F) (b:=z.2) (g:=g) (y:=y) (c:=c) (l:=l) (chi:=chi) (k:=k) (T:=z.1) (p:=p)) (lo_wSJ ..) (ok_wSJ ..) rfl
theorem meLJ_2_r1 (z : Mx × Bool) : RunsTo Tryz.prog 248 wGL (wSJ 2 1 g c y l chi k z.1 p z.2) .normal (wSJ 2 2 g c y l chi k (meFJ F g.p.at k c.at 2 1 z).1 p (meFJ F g.p.at k c.at 2 1 z).2):=gCut_runs hG (wqJ_2_1 (F:=F) (b:=z.2) (g:=g) (y:=y) (c:=c) (l:=l) (chi:=chi) (k:=k) (T:=z.1) (p:=p)) (lo_wSJ ..) (ok_wSJ ..) rfl
theorem meLJ_2_r2 (z : Mx × Bool) : RunsTo Tryz.prog 248 wGL (wSJ 2 2 g c y l chi k z.1 p z.2) .normal (wSJ 2 3 g c y l chi k (meFJ F g.p.at k c.at 2 2 z).1 p (meFJ F g.p.at k c.at 2 2 z).2):=gCut_runs hG (wqJ_2_2 (F:=F) (b:=z.2) (g:=g) (y:=y) (c:=c) (l:=l) (chi:=chi) (k:=k) (T:=z.1) (p:=p)) (lo_wSJ ..) (ok_wSJ ..) rfl
theorem meLJ_2_r3 (z : Mx × Bool) : RunsTo Tryz.prog 248 wGL (wSJ 2 3 g c y l chi k z.1 p z.2) .normal (wSJ 2 4 g c y l chi k (meFJ F g.p.at k c.at 2 3 z).1 p (meFJ F g.p.at k c.at 2 3 z).2):=gCut_runs hG (wqJ_2_3 (F:=F) (b:=z.2) (g:=g) (y:=y) (c:=c) (l:=l) (chi:=chi) (k:=k) (T:=z.1) (p:=p)) (lo_wSJ ..) (ok_wSJ ..) rfl
theorem meLJ_2_r4 (z : Mx × Bool) : RunsTo Tryz.prog 248 wGL (wSJ 2 4 g c y l chi k z.1 p z.2) .normal (wSJ 2 5 g c y l chi k (meFJ F g.p.at k c.at 2 4 z).1 p (meFJ F g.p.at k c.at 2 4 z).2):=gCut_runs hG (wqJ_2_4 (F:=F) (b:=z.2) (g:=g) (y:=y) (c:=c) (l:=l) (chi:=chi) (k:=k) (T:=z.1) (p:=p)) (lo_wSJ ..) (ok_wSJ ..) rfl
theorem meLJ_2_r5 (z : Mx × Bool) : RunsTo Tryz.prog 248 wGL (wSJ 2 5 g c y l chi k z.1 p z.2) .normal (wSJ 2 6 g c y l chi k (meFJ F g.p.at k c.at 2 5 z).1 p (meFJ F g.p.at k c.at 2 5 z).2):=gCut_runs hG (wqJ_2_5 (F:=F) (b:=z.2) (g:=g) (y:=y) (c:=c) (l:=l) (chi:=chi) (k:=k) (T:=z.1) (p:=p)) (lo_wSJ ..) (ok_wSJ ..) rfl
theorem meLJ_2_r6 (z : Mx × Bool) : RunsTo Tryz.prog 248 wGL (wSJ 2 6 g c y l chi k z.1 p z.2) (.exit 12) (wSG 2 g c y l chi k z.1 p z.2):=gCut_runs hG (wqJ_2_6 (F:=F) (b:=z.2) (g:=g) (y:=y) (c:=c) (l:=l) (chi:=chi) (k:=k) (T:=z.1) (p:=p)) (lo_wSJ ..) (ok_wSG ..) rfl
theorem meLJ_2 : RunsTo Tryz.prog 248 (.block 12 (.loop wGL)) (wSJ 2 0 g c y l chi k (T,b).1 p (T,b).2) .normal (wSG 2 g c y l chi k (iterF (meFJ F g.p.at k c.at 2) 0 6 (T,b)).1 p (iterF (meFJ F g.p.at k c.at 2) 0 6 (T,b)).2) :=
  RunsTo.rounds (P:=Tryz.prog) (N:=248) (c:=wGL) (id:=12) 6 (fun i z=>wSJ 2 i g c y l chi k z.1 p z.2) (fun z=>wSG 2 g c y l chi k z.1 p z.2) (meFJ F g.p.at k c.at 2)
    (fun i z=>below6 (p:=fun i=>RunsTo Tryz.prog 248 wGL (wSJ 2 i g c y l chi k z.1 p z.2) .normal (wSJ 2 (i + 1 : Nat) g c y l chi k (meFJ F g.p.at k c.at 2 i z).1 p (meFJ F g.p.at k c.at 2 i z).2))
      (meLJ_2_r0 (hG:=hG) (g:=g) (y:=y) (c:=c) (l:=l) (chi:=chi) (k:=k)  (p:=p) (z:=z))
      (meLJ_2_r1 (hG:=hG) (g:=g) (y:=y) (c:=c) (l:=l) (chi:=chi) (k:=k)  (p:=p) (z:=z))
      (meLJ_2_r2 (hG:=hG) (g:=g) (y:=y) (c:=c) (l:=l) (chi:=chi) (k:=k)  (p:=p) (z:=z))
      (meLJ_2_r3 (hG:=hG) (g:=g) (y:=y) (c:=c) (l:=l) (chi:=chi) (k:=k)  (p:=p) (z:=z))
      (meLJ_2_r4 (hG:=hG) (g:=g) (y:=y) (c:=c) (l:=l) (chi:=chi) (k:=k)  (p:=p) (z:=z))
      (meLJ_2_r5 (hG:=hG) (g:=g) (y:=y) (c:=c) (l:=l) (chi:=chi) (k:=k)  (p:=p) (z:=z))
      i)
    (fun z=>meLJ_2_r6 (hG:=hG) (g:=g) (y:=y) (c:=c) (l:=l) (chi:=chi) (k:=k)  (p:=p) (z:=z)) (T,b)
theorem meG_2 : RunsTo Tryz.prog 248 wG (wSG 2 g c y l chi k T p b) .normal (wSG 3 g c y l chi k (meFG F g.p.at k c.at 2 (T,b)).1 p (meFG F g.p.at k c.at 2 (T,b)).2):=by
  rw [wG_is]
  have h:=(gRun_runs hG (wqGc_2 (F:=F) (b:=b) (g:=g) (y:=y) (c:=c) (l:=l) (chi:=chi) (k:=k) (T:=T) (p:=p))).seq ((gRun_runs hG (wqGd_2 (F:=F) (b:=b) (g:=g) (y:=y) (c:=c) (l:=l) (chi:=chi) (k:=k) (T:=T) (p:=p))).seq (meLJ_2 hG b g y c l chi k T p))
  unfold meFG
  generalize iterF (meFJ F g.p.at k c.at 2) 0 6 (T,b) = z at h ⊢
  exact (gRun_runs hG (wqGa_2 (F:=F) (b:=b) (g:=g) (y:=y) (c:=c) (l:=l) (chi:=chi) (k:=k) (T:=T) (p:=p))).seq ((gRun_runs hG (wqGb_2 (F:=F) (b:=b) (g:=g) (y:=y) (c:=c) (l:=l) (chi:=chi) (k:=k) (T:=T) (p:=p))).seq ((h.block (.inl rfl)).seq (gRun_runs hG (wqGe_2 (F:=F) (b:=z.2) (g:=g) (y:=y) (c:=c) (l:=l) (chi:=chi) (k:=k) (T:=z.1) (p:=p)))))
theorem meLJ_3_r0 (z : Mx × Bool) : RunsTo Tryz.prog 248 wGL (wSJ 3 0 g c y l chi k z.1 p z.2) .normal (wSJ 3 1 g c y l chi k (meFJ F g.p.at k c.at 3 0 z).1 p (meFJ F g.p.at k c.at 3 0 z).2):=gCut_runs hG (wqJ_3_0 (F:=F) (b:=z.2) (g:=g) (y:=y) (c:=c) (l:=l) (chi:=chi) (k:=k) (T:=z.1) (p:=p)) (lo_wSJ ..) (ok_wSJ ..) rfl
theorem meLJ_3_r1 (z : Mx × Bool) : RunsTo Tryz.prog 248 wGL (wSJ 3 1 g c y l chi k z.1 p z.2) .normal (wSJ 3 2 g c y l chi k (meFJ F g.p.at k c.at 3 1 z).1 p (meFJ F g.p.at k c.at 3 1 z).2):=gCut_runs hG (wqJ_3_1 (F:=F) (b:=z.2) (g:=g) (y:=y) (c:=c) (l:=l) (chi:=chi) (k:=k) (T:=z.1) (p:=p)) (lo_wSJ ..) (ok_wSJ ..) rfl
theorem meLJ_3_r2 (z : Mx × Bool) : RunsTo Tryz.prog 248 wGL (wSJ 3 2 g c y l chi k z.1 p z.2) .normal (wSJ 3 3 g c y l chi k (meFJ F g.p.at k c.at 3 2 z).1 p (meFJ F g.p.at k c.at 3 2 z).2):=gCut_runs hG (wqJ_3_2 (F:=F) (b:=z.2) (g:=g) (y:=y) (c:=c) (l:=l) (chi:=chi) (k:=k) (T:=z.1) (p:=p)) (lo_wSJ ..) (ok_wSJ ..) rfl
theorem meLJ_3_r3 (z : Mx × Bool) : RunsTo Tryz.prog 248 wGL (wSJ 3 3 g c y l chi k z.1 p z.2) .normal (wSJ 3 4 g c y l chi k (meFJ F g.p.at k c.at 3 3 z).1 p (meFJ F g.p.at k c.at 3 3 z).2):=gCut_runs hG (wqJ_3_3 (F:=F) (b:=z.2) (g:=g) (y:=y) (c:=c) (l:=l) (chi:=chi) (k:=k) (T:=z.1) (p:=p)) (lo_wSJ ..) (ok_wSJ ..) rfl
theorem meLJ_3_r4 (z : Mx × Bool) : RunsTo Tryz.prog 248 wGL (wSJ 3 4 g c y l chi k z.1 p z.2) .normal (wSJ 3 5 g c y l chi k (meFJ F g.p.at k c.at 3 4 z).1 p (meFJ F g.p.at k c.at 3 4 z).2):=gCut_runs hG (wqJ_3_4 (F:=F) (b:=z.2) (g:=g) (y:=y) (c:=c) (l:=l) (chi:=chi) (k:=k) (T:=z.1) (p:=p)) (lo_wSJ ..) (ok_wSJ ..) rfl
theorem meLJ_3_r5 (z : Mx × Bool) : RunsTo Tryz.prog 248 wGL (wSJ 3 5 g c y l chi k z.1 p z.2) .normal (wSJ 3 6 g c y l chi k (meFJ F g.p.at k c.at 3 5 z).1 p (meFJ F g.p.at k c.at 3 5 z).2):=gCut_runs hG (wqJ_3_5 (F:=F) (b:=z.2) (g:=g) (y:=y) (c:=c) (l:=l) (chi:=chi) (k:=k) (T:=z.1) (p:=p)) (lo_wSJ ..) (ok_wSJ ..) rfl
theorem meLJ_3_r6 (z : Mx × Bool) : RunsTo Tryz.prog 248 wGL (wSJ 3 6 g c y l chi k z.1 p z.2) (.exit 12) (wSG 3 g c y l chi k z.1 p z.2):=gCut_runs hG (wqJ_3_6 (F:=F) (b:=z.2) (g:=g) (y:=y) (c:=c) (l:=l) (chi:=chi) (k:=k) (T:=z.1) (p:=p)) (lo_wSJ ..) (ok_wSG ..) rfl
theorem meLJ_3 : RunsTo Tryz.prog 248 (.block 12 (.loop wGL)) (wSJ 3 0 g c y l chi k (T,b).1 p (T,b).2) .normal (wSG 3 g c y l chi k (iterF (meFJ F g.p.at k c.at 3) 0 6 (T,b)).1 p (iterF (meFJ F g.p.at k c.at 3) 0 6 (T,b)).2) :=
  RunsTo.rounds (P:=Tryz.prog) (N:=248) (c:=wGL) (id:=12) 6 (fun i z=>wSJ 3 i g c y l chi k z.1 p z.2) (fun z=>wSG 3 g c y l chi k z.1 p z.2) (meFJ F g.p.at k c.at 3)
    (fun i z=>below6 (p:=fun i=>RunsTo Tryz.prog 248 wGL (wSJ 3 i g c y l chi k z.1 p z.2) .normal (wSJ 3 (i + 1 : Nat) g c y l chi k (meFJ F g.p.at k c.at 3 i z).1 p (meFJ F g.p.at k c.at 3 i z).2))
      (meLJ_3_r0 (hG:=hG) (g:=g) (y:=y) (c:=c) (l:=l) (chi:=chi) (k:=k)  (p:=p) (z:=z))
      (meLJ_3_r1 (hG:=hG) (g:=g) (y:=y) (c:=c) (l:=l) (chi:=chi) (k:=k)  (p:=p) (z:=z))
      (meLJ_3_r2 (hG:=hG) (g:=g) (y:=y) (c:=c) (l:=l) (chi:=chi) (k:=k)  (p:=p) (z:=z))
      (meLJ_3_r3 (hG:=hG) (g:=g) (y:=y) (c:=c) (l:=l) (chi:=chi) (k:=k)  (p:=p) (z:=z))
      (meLJ_3_r4 (hG:=hG) (g:=g) (y:=y) (c:=c) (l:=l) (chi:=chi) (k:=k)  (p:=p) (z:=z))
      (meLJ_3_r5 (hG:=hG) (g:=g) (y:=y) (c:=c) (l:=l) (chi:=chi) (k:=k)  (p:=p) (z:=z))
      i)
    (fun z=>meLJ_3_r6 (hG:=hG) (g:=g) (y:=y) (c:=c) (l:=l) (chi:=chi) (k:=k)  (p:=p) (z:=z)) (T,b)
theorem meG_3 : RunsTo Tryz.prog 248 wG (wSG 3 g c y l chi k T p b) .normal (wSG 4 g c y l chi k (meFG F g.p.at k c.at 3 (T,b)).1 p (meFG F g.p.at k c.at 3 (T,b)).2):=by
  rw [wG_is]
  have h:=(gRun_runs hG (wqGc_3 (F:=F) (b:=b) (g:=g) (y:=y) (c:=c) (l:=l) (chi:=chi) (k:=k) (T:=T) (p:=p))).seq ((gRun_runs hG (wqGd_3 (F:=F) (b:=b) (g:=g) (y:=y) (c:=c) (l:=l) (chi:=chi) (k:=k) (T:=T) (p:=p))).seq (meLJ_3 hG b g y c l chi k T p))
  unfold meFG
  generalize iterF (meFJ F g.p.at k c.at 3) 0 6 (T,b) = z at h ⊢
  exact (gRun_runs hG (wqGa_3 (F:=F) (b:=b) (g:=g) (y:=y) (c:=c) (l:=l) (chi:=chi) (k:=k) (T:=T) (p:=p))).seq ((gRun_runs hG (wqGb_3 (F:=F) (b:=b) (g:=g) (y:=y) (c:=c) (l:=l) (chi:=chi) (k:=k) (T:=T) (p:=p))).seq ((h.block (.inl rfl)).seq (gRun_runs hG (wqGe_3 (F:=F) (b:=z.2) (g:=g) (y:=y) (c:=c) (l:=l) (chi:=chi) (k:=k) (T:=z.1) (p:=p)))))
theorem meLJ_4_r0 (z : Mx × Bool) : RunsTo Tryz.prog 248 wGL (wSJ 4 0 g c y l chi k z.1 p z.2) .normal (wSJ 4 1 g c y l chi k (meFJ F g.p.at k c.at 4 0 z).1 p (meFJ F g.p.at k c.at 4 0 z).2):=gCut_runs hG (wqJ_4_0 (F:=F) (b:=z.2) (g:=g) (y:=y) (c:=c) (l:=l) (chi:=chi) (k:=k) (T:=z.1) (p:=p)) (lo_wSJ ..) (ok_wSJ ..) rfl
theorem meLJ_4_r1 (z : Mx × Bool) : RunsTo Tryz.prog 248 wGL (wSJ 4 1 g c y l chi k z.1 p z.2) .normal (wSJ 4 2 g c y l chi k (meFJ F g.p.at k c.at 4 1 z).1 p (meFJ F g.p.at k c.at 4 1 z).2):=gCut_runs hG (wqJ_4_1 (F:=F) (b:=z.2) (g:=g) (y:=y) (c:=c) (l:=l) (chi:=chi) (k:=k) (T:=z.1) (p:=p)) (lo_wSJ ..) (ok_wSJ ..) rfl
theorem meLJ_4_r2 (z : Mx × Bool) : RunsTo Tryz.prog 248 wGL (wSJ 4 2 g c y l chi k z.1 p z.2) .normal (wSJ 4 3 g c y l chi k (meFJ F g.p.at k c.at 4 2 z).1 p (meFJ F g.p.at k c.at 4 2 z).2):=gCut_runs hG (wqJ_4_2 (F:=F) (b:=z.2) (g:=g) (y:=y) (c:=c) (l:=l) (chi:=chi) (k:=k) (T:=z.1) (p:=p)) (lo_wSJ ..) (ok_wSJ ..) rfl
theorem meLJ_4_r3 (z : Mx × Bool) : RunsTo Tryz.prog 248 wGL (wSJ 4 3 g c y l chi k z.1 p z.2) .normal (wSJ 4 4 g c y l chi k (meFJ F g.p.at k c.at 4 3 z).1 p (meFJ F g.p.at k c.at 4 3 z).2):=gCut_runs hG (wqJ_4_3 (F:=F) (b:=z.2) (g:=g) (y:=y) (c:=c) (l:=l) (chi:=chi) (k:=k) (T:=z.1) (p:=p)) (lo_wSJ ..) (ok_wSJ ..) rfl
theorem meLJ_4_r4 (z : Mx × Bool) : RunsTo Tryz.prog 248 wGL (wSJ 4 4 g c y l chi k z.1 p z.2) .normal (wSJ 4 5 g c y l chi k (meFJ F g.p.at k c.at 4 4 z).1 p (meFJ F g.p.at k c.at 4 4 z).2):=gCut_runs hG (wqJ_4_4 (F:=F) (b:=z.2) (g:=g) (y:=y) (c:=c) (l:=l) (chi:=chi) (k:=k) (T:=z.1) (p:=p)) (lo_wSJ ..) (ok_wSJ ..) rfl
theorem meLJ_4_r5 (z : Mx × Bool) : RunsTo Tryz.prog 248 wGL (wSJ 4 5 g c y l chi k z.1 p z.2) .normal (wSJ 4 6 g c y l chi k (meFJ F g.p.at k c.at 4 5 z).1 p (meFJ F g.p.at k c.at 4 5 z).2):=gCut_runs hG (wqJ_4_5 (F:=F) (b:=z.2) (g:=g) (y:=y) (c:=c) (l:=l) (chi:=chi) (k:=k) (T:=z.1) (p:=p)) (lo_wSJ ..) (ok_wSJ ..) rfl
theorem meLJ_4_r6 (z : Mx × Bool) : RunsTo Tryz.prog 248 wGL (wSJ 4 6 g c y l chi k z.1 p z.2) (.exit 12) (wSG 4 g c y l chi k z.1 p z.2):=gCut_runs hG (wqJ_4_6 (F:=F) (b:=z.2) (g:=g) (y:=y) (c:=c) (l:=l) (chi:=chi) (k:=k) (T:=z.1) (p:=p)) (lo_wSJ ..) (ok_wSG ..) rfl
theorem meLJ_4 : RunsTo Tryz.prog 248 (.block 12 (.loop wGL)) (wSJ 4 0 g c y l chi k (T,b).1 p (T,b).2) .normal (wSG 4 g c y l chi k (iterF (meFJ F g.p.at k c.at 4) 0 6 (T,b)).1 p (iterF (meFJ F g.p.at k c.at 4) 0 6 (T,b)).2) :=
  RunsTo.rounds (P:=Tryz.prog) (N:=248) (c:=wGL) (id:=12) 6 (fun i z=>wSJ 4 i g c y l chi k z.1 p z.2) (fun z=>wSG 4 g c y l chi k z.1 p z.2) (meFJ F g.p.at k c.at 4)
    (fun i z=>below6 (p:=fun i=>RunsTo Tryz.prog 248 wGL (wSJ 4 i g c y l chi k z.1 p z.2) .normal (wSJ 4 (i + 1 : Nat) g c y l chi k (meFJ F g.p.at k c.at 4 i z).1 p (meFJ F g.p.at k c.at 4 i z).2))
      (meLJ_4_r0 (hG:=hG) (g:=g) (y:=y) (c:=c) (l:=l) (chi:=chi) (k:=k)  (p:=p) (z:=z))
      (meLJ_4_r1 (hG:=hG) (g:=g) (y:=y) (c:=c) (l:=l) (chi:=chi) (k:=k)  (p:=p) (z:=z))
      (meLJ_4_r2 (hG:=hG) (g:=g) (y:=y) (c:=c) (l:=l) (chi:=chi) (k:=k)  (p:=p) (z:=z))
      (meLJ_4_r3 (hG:=hG) (g:=g) (y:=y) (c:=c) (l:=l) (chi:=chi) (k:=k)  (p:=p) (z:=z))
      (meLJ_4_r4 (hG:=hG) (g:=g) (y:=y) (c:=c) (l:=l) (chi:=chi) (k:=k)  (p:=p) (z:=z))
      (meLJ_4_r5 (hG:=hG) (g:=g) (y:=y) (c:=c) (l:=l) (chi:=chi) (k:=k)  (p:=p) (z:=z))
      i)
    (fun z=>meLJ_4_r6 (hG:=hG) (g:=g) (y:=y) (c:=c) (l:=l) (chi:=chi) (k:=k)  (p:=p) (z:=z)) (T,b)
theorem meG_4 : RunsTo Tryz.prog 248 wG (wSG 4 g c y l chi k T p b) .normal (wSG 5 g c y l chi k (meFG F g.p.at k c.at 4 (T,b)).1 p (meFG F g.p.at k c.at 4 (T,b)).2):=by
  rw [wG_is]
  have h:=(gRun_runs hG (wqGc_4 (F:=F) (b:=b) (g:=g) (y:=y) (c:=c) (l:=l) (chi:=chi) (k:=k) (T:=T) (p:=p))).seq ((gRun_runs hG (wqGd_4 (F:=F) (b:=b) (g:=g) (y:=y) (c:=c) (l:=l) (chi:=chi) (k:=k) (T:=T) (p:=p))).seq (meLJ_4 hG b g y c l chi k T p))
  unfold meFG
  generalize iterF (meFJ F g.p.at k c.at 4) 0 6 (T,b) = z at h ⊢
  exact (gRun_runs hG (wqGa_4 (F:=F) (b:=b) (g:=g) (y:=y) (c:=c) (l:=l) (chi:=chi) (k:=k) (T:=T) (p:=p))).seq ((gRun_runs hG (wqGb_4 (F:=F) (b:=b) (g:=g) (y:=y) (c:=c) (l:=l) (chi:=chi) (k:=k) (T:=T) (p:=p))).seq ((h.block (.inl rfl)).seq (gRun_runs hG (wqGe_4 (F:=F) (b:=z.2) (g:=g) (y:=y) (c:=c) (l:=l) (chi:=chi) (k:=k) (T:=z.1) (p:=p)))))
theorem meLJ_5_r0 (z : Mx × Bool) : RunsTo Tryz.prog 248 wGL (wSJ 5 0 g c y l chi k z.1 p z.2) .normal (wSJ 5 1 g c y l chi k (meFJ F g.p.at k c.at 5 0 z).1 p (meFJ F g.p.at k c.at 5 0 z).2):=gCut_runs hG (wqJ_5_0 (F:=F) (b:=z.2) (g:=g) (y:=y) (c:=c) (l:=l) (chi:=chi) (k:=k) (T:=z.1) (p:=p)) (lo_wSJ ..) (ok_wSJ ..) rfl
theorem meLJ_5_r1 (z : Mx × Bool) : RunsTo Tryz.prog 248 wGL (wSJ 5 1 g c y l chi k z.1 p z.2) .normal (wSJ 5 2 g c y l chi k (meFJ F g.p.at k c.at 5 1 z).1 p (meFJ F g.p.at k c.at 5 1 z).2):=gCut_runs hG (wqJ_5_1 (F:=F) (b:=z.2) (g:=g) (y:=y) (c:=c) (l:=l) (chi:=chi) (k:=k) (T:=z.1) (p:=p)) (lo_wSJ ..) (ok_wSJ ..) rfl
theorem meLJ_5_r2 (z : Mx × Bool) : RunsTo Tryz.prog 248 wGL (wSJ 5 2 g c y l chi k z.1 p z.2) .normal (wSJ 5 3 g c y l chi k (meFJ F g.p.at k c.at 5 2 z).1 p (meFJ F g.p.at k c.at 5 2 z).2):=gCut_runs hG (wqJ_5_2 (F:=F) (b:=z.2) (g:=g) (y:=y) (c:=c) (l:=l) (chi:=chi) (k:=k) (T:=z.1) (p:=p)) (lo_wSJ ..) (ok_wSJ ..) rfl
theorem meLJ_5_r3 (z : Mx × Bool) : RunsTo Tryz.prog 248 wGL (wSJ 5 3 g c y l chi k z.1 p z.2) .normal (wSJ 5 4 g c y l chi k (meFJ F g.p.at k c.at 5 3 z).1 p (meFJ F g.p.at k c.at 5 3 z).2):=gCut_runs hG (wqJ_5_3 (F:=F) (b:=z.2) (g:=g) (y:=y) (c:=c) (l:=l) (chi:=chi) (k:=k) (T:=z.1) (p:=p)) (lo_wSJ ..) (ok_wSJ ..) rfl
theorem meLJ_5_r4 (z : Mx × Bool) : RunsTo Tryz.prog 248 wGL (wSJ 5 4 g c y l chi k z.1 p z.2) .normal (wSJ 5 5 g c y l chi k (meFJ F g.p.at k c.at 5 4 z).1 p (meFJ F g.p.at k c.at 5 4 z).2):=gCut_runs hG (wqJ_5_4 (F:=F) (b:=z.2) (g:=g) (y:=y) (c:=c) (l:=l) (chi:=chi) (k:=k) (T:=z.1) (p:=p)) (lo_wSJ ..) (ok_wSJ ..) rfl
theorem meLJ_5_r5 (z : Mx × Bool) : RunsTo Tryz.prog 248 wGL (wSJ 5 5 g c y l chi k z.1 p z.2) .normal (wSJ 5 6 g c y l chi k (meFJ F g.p.at k c.at 5 5 z).1 p (meFJ F g.p.at k c.at 5 5 z).2):=gCut_runs hG (wqJ_5_5 (F:=F) (b:=z.2) (g:=g) (y:=y) (c:=c) (l:=l) (chi:=chi) (k:=k) (T:=z.1) (p:=p)) (lo_wSJ ..) (ok_wSJ ..) rfl
theorem meLJ_5_r6 (z : Mx × Bool) : RunsTo Tryz.prog 248 wGL (wSJ 5 6 g c y l chi k z.1 p z.2) (.exit 12) (wSG 5 g c y l chi k z.1 p z.2):=gCut_runs hG (wqJ_5_6 (F:=F) (b:=z.2) (g:=g) (y:=y) (c:=c) (l:=l) (chi:=chi) (k:=k) (T:=z.1) (p:=p)) (lo_wSJ ..) (ok_wSG ..) rfl
theorem meLJ_5 : RunsTo Tryz.prog 248 (.block 12 (.loop wGL)) (wSJ 5 0 g c y l chi k (T,b).1 p (T,b).2) .normal (wSG 5 g c y l chi k (iterF (meFJ F g.p.at k c.at 5) 0 6 (T,b)).1 p (iterF (meFJ F g.p.at k c.at 5) 0 6 (T,b)).2) :=
  RunsTo.rounds (P:=Tryz.prog) (N:=248) (c:=wGL) (id:=12) 6 (fun i z=>wSJ 5 i g c y l chi k z.1 p z.2) (fun z=>wSG 5 g c y l chi k z.1 p z.2) (meFJ F g.p.at k c.at 5)
    (fun i z=>below6 (p:=fun i=>RunsTo Tryz.prog 248 wGL (wSJ 5 i g c y l chi k z.1 p z.2) .normal (wSJ 5 (i + 1 : Nat) g c y l chi k (meFJ F g.p.at k c.at 5 i z).1 p (meFJ F g.p.at k c.at 5 i z).2))
      (meLJ_5_r0 (hG:=hG) (g:=g) (y:=y) (c:=c) (l:=l) (chi:=chi) (k:=k)  (p:=p) (z:=z))
      (meLJ_5_r1 (hG:=hG) (g:=g) (y:=y) (c:=c) (l:=l) (chi:=chi) (k:=k)  (p:=p) (z:=z))
      (meLJ_5_r2 (hG:=hG) (g:=g) (y:=y) (c:=c) (l:=l) (chi:=chi) (k:=k)  (p:=p) (z:=z))
      (meLJ_5_r3 (hG:=hG) (g:=g) (y:=y) (c:=c) (l:=l) (chi:=chi) (k:=k)  (p:=p) (z:=z))
      (meLJ_5_r4 (hG:=hG) (g:=g) (y:=y) (c:=c) (l:=l) (chi:=chi) (k:=k)  (p:=p) (z:=z))
      (meLJ_5_r5 (hG:=hG) (g:=g) (y:=y) (c:=c) (l:=l) (chi:=chi) (k:=k)  (p:=p) (z:=z))
      i)
    (fun z=>meLJ_5_r6 (hG:=hG) (g:=g) (y:=y) (c:=c) (l:=l) (chi:=chi) (k:=k)  (p:=p) (z:=z)) (T,b)
theorem meG_5 : RunsTo Tryz.prog 248 wG (wSG 5 g c y l chi k T p b) .normal (wSG 6 g c y l chi k (meFG F g.p.at k c.at 5 (T,b)).1 p (meFG F g.p.at k c.at 5 (T,b)).2):=by
  rw [wG_is]
  have h:=(gRun_runs hG (wqGc_5 (F:=F) (b:=b) (g:=g) (y:=y) (c:=c) (l:=l) (chi:=chi) (k:=k) (T:=T) (p:=p))).seq ((gRun_runs hG (wqGd_5 (F:=F) (b:=b) (g:=g) (y:=y) (c:=c) (l:=l) (chi:=chi) (k:=k) (T:=T) (p:=p))).seq (meLJ_5 hG b g y c l chi k T p))
  unfold meFG
  generalize iterF (meFJ F g.p.at k c.at 5) 0 6 (T,b) = z at h ⊢
  exact (gRun_runs hG (wqGa_5 (F:=F) (b:=b) (g:=g) (y:=y) (c:=c) (l:=l) (chi:=chi) (k:=k) (T:=T) (p:=p))).seq ((gRun_runs hG (wqGb_5 (F:=F) (b:=b) (g:=g) (y:=y) (c:=c) (l:=l) (chi:=chi) (k:=k) (T:=T) (p:=p))).seq ((h.block (.inl rfl)).seq (gRun_runs hG (wqGe_5 (F:=F) (b:=z.2) (g:=g) (y:=y) (c:=c) (l:=l) (chi:=chi) (k:=k) (T:=z.1) (p:=p)))))
theorem meG_6 : RunsTo Tryz.prog 248 wG (wSG 6 g c y l chi k T p b) (.exit 10) (wS35 g c y l chi k T p b):=gCut_runs hG (wqG_6 (F:=F) (b:=b) (g:=g) (y:=y) (c:=c) (l:=l) (chi:=chi) (k:=k) (T:=T) (p:=p)) (lo_wSG ..) (ok_wS35 ..) rfl
theorem meLG : RunsTo Tryz.prog 248 (.block 10 (.loop wG)) (wSG 0 g c y l chi k T p b) .normal (wS35 g c y l chi k (iterF (meFG F g.p.at k c.at) 0 6 (T,b)).1 p (iterF (meFG F g.p.at k c.at) 0 6 (T,b)).2) :=
  RunsTo.rounds (P:=Tryz.prog) (N:=248) (c:=wG) (id:=10) 6 (fun i z=>wSG i g c y l chi k z.1 p z.2) (fun z=>wS35 g c y l chi k z.1 p z.2) (meFG F g.p.at k c.at)
    (fun i z=>below6 (p:=fun i=>RunsTo Tryz.prog 248 wG (wSG i g c y l chi k z.1 p z.2) .normal (wSG (i + 1 : Nat) g c y l chi k (meFG F g.p.at k c.at i z).1 p (meFG F g.p.at k c.at i z).2))
      (meG_0 hG z.2 g y c l chi k z.1 p)
      (meG_1 hG z.2 g y c l chi k z.1 p)
      (meG_2 hG z.2 g y c l chi k z.1 p)
      (meG_3 hG z.2 g y c l chi k z.1 p)
      (meG_4 hG z.2 g y c l chi k z.1 p)
      (meG_5 hG z.2 g y c l chi k z.1 p)
      i)
    (fun z=>meG_6 hG z.2 g y c l chi k z.1 p) (T,b)
end
end Go.Ab
namespace Go.Ab
open Go Go.Proofs
def GCB.zero : GCB:=⟨Gs.zero,0,false⟩
def meetEnd (F : GOps) (g : Gs) (c : M6) (y : R6) (l : M6) (chi : Int) : GCB × Bool :=
  let k:=iterF (meFF F l c) 0 6 (mx0,false)
  let T:=iterF (meFG F g.p.at k.1 c.at) 0 6 (mx0,k.2)
  let p:=iterF (meFH F T.1) 0 6 (mx0,T.2)
  let z:=meZ F g y k.1 p.1 p.2
  (⟨z.1.a,bif z.1.b then chi else 0,z.1.b⟩,z.2)
def meetMid (F : GOps) (g : Gs) (c : M6) (y : R6) (l : M6) (e : Int × Bool) : GCB × Bool :=
  bif e.2 then (GCB.zero,true) else bif decide (e.1 > 32985348833280) then (⟨g,e.1,false⟩,false) else meetEnd F g c y l e.1
def meetO (F : GOps) (b : Bool) (a : Gs × P2 × P2 × Unit) : GCB × Bool :=
  let s:=iterF (meFA F) 0 2 ((a.2.1,a.2.2.1),b)
  let x:=F.pt s.2 (a.1,())
  let z:=iterF (meFB F a.1.q s.1.1 x.1) 0 13 (mx0,x.2)
  let d:=F.cen z.2 (x13of z.1)
  let p:=F.pro d.2 d.1.x d.1.x
  let c:=F.pro p.2 x.1 d.1.x
  let n:=F.ont c.2 p.1 67108864 268435456
  let y:=iterF (meFD F d.1.m) 0 6 ((joinV s.1.2.a s.1.2.b).at,n.2)
  let l:=F.rt y.2 (n.1,6,())
  let u:=F.so l.2 (l.1,R6.of y.1,6,())
  let e:=iterF (meFE F (R6.of y.1) u.1) 0 6 (0,u.2)
  meetMid F a.1 c.1 (R6.of y.1) l.1 e
noncomputable abbrev wEnd : Code:=.seq w35 (.seq (.seq w36 (.block 8 (.loop wF))) (.seq (.seq w41 (.block 10 (.loop wG))) (.seq (.seq w56 (.block 16 (.loop wH))) (.seq w65 (.seq w66 w68)))))
theorem wq33_ret (g : Gs) (c : M6) (y : R6) (l : M6) (chi : Int) (b : Bool) : dropSt [0,nD] (restN 248 [0,8,9,10]) (gSt 248 [(0,.ptr 0 0),(8,.ptr nD 0),(9,.val (.int .i64 chi)),(10,.val (.bool false)),(5,.ptr nA 0),(21,.ptr nI 0),(22,.ptr nJ 0),(24,.ptr nK 0),(25,.val (.int .i64 chi))] [(0,.row 57 [.val (.bool b)]),(nA,.row 42 g.av),(nD,.row 42 g.av),(nI,.row 40 c.av),(nJ,.row 38 y.av),(nK,.row 40 l.av)] nL) = wR g chi false b:=by kernel_rfl
theorem wq33_go (g : Gs) (c : M6) (y : R6) (l : M6) (chi : Int) (b : Bool) : gSt 248 [(0,.ptr 0 0),(8,.ptr nD 0),(9,.any),(10,.any),(5,.ptr nA 0),(21,.ptr nI 0),(22,.ptr nJ 0),(24,.ptr nK 0),(25,.val (.int .i64 chi))] [(0,.row 57 [.val (.bool b)]),(nA,.row 42 g.av),(nD,.row 42 Gs.zero.av),(nI,.row 40 c.av),(nJ,.row 38 y.av),(nK,.row 40 l.av)] nL = wS25 g c y l chi b:=by kernel_rfl
section
variable {F : GOps} (hG : GamOk Tryz.prog (eE F).gam)
include hG
theorem end_runs (g : Gs) (c : M6) (y : R6) (l : M6) (chi : Int) : RunsTo Tryz.prog 248 wEnd (wS25 g c y l chi false) .ret (wR2 (meetEnd F g c y l chi).1.g (meetEnd F g c y l chi).1.chi (meetEnd F g c y l chi).1.ok (meetEnd F g c y l chi).2):=by
  have h35:=gRun_runs hG (wq35 (F:=F) (b:=false) (g:=g) (c:=c) (y:=y) (l:=l) (chi:=chi))
  have h36:=(gRun_runs hG (wq36 (F:=F) (b:=false) (g:=g) (c:=c) (y:=y) (l:=l) (chi:=chi) (k:=mx0) (T:=mx0) (p:=mx0))).seq (meLF (hG:=hG) (b:=false) (g:=g) (c:=c) (y:=y) (l:=l) (chi:=chi) (k:=mx0) (T:=mx0) (p:=mx0))
  unfold meetEnd
  dsimp only
  generalize iterF (meFF F l c) 0 6 (mx0,false) = k at h36 ⊢
  have h41:=(gRun_runs hG (wq41 (F:=F) (b:=k.2) (g:=g) (c:=c) (y:=y) (l:=l) (chi:=chi) (k:=k.1) (T:=mx0) (p:=mx0))).seq (meLG (hG:=hG) (b:=k.2) (g:=g) (c:=c) (y:=y) (l:=l) (chi:=chi) (k:=k.1) (T:=mx0) (p:=mx0))
  generalize iterF (meFG F g.p.at k.1 c.at) 0 6 (mx0,k.2) = T at h41 ⊢
  have h56:=(gRun_runs hG (wq56 (F:=F) (b:=T.2) (g:=g) (c:=c) (y:=y) (l:=l) (chi:=chi) (k:=k.1) (T:=T.1) (p:=mx0))).seq (meLH (hG:=hG) (b:=T.2) (g:=g) (c:=c) (y:=y) (l:=l) (chi:=chi) (k:=k.1) (T:=T.1) (p:=mx0))
  generalize iterF (meFH F T.1) 0 6 (mx0,T.2) = p at h56 ⊢
  have h65:=gRun_runs hG (wq65 (F:=F) (b:=p.2) (g:=g) (c:=c) (y:=y) (l:=l) (chi:=chi) (k:=k.1) (T:=T.1) (p:=p.1))
  generalize meZ F g y k.1 p.1 p.2 = z at h65 ⊢
  have h66 : RunsTo Tryz.prog 248 w66 (wS65 chi z.1.b z.1.a z.2) .normal (wS65 (bif z.1.b then chi else 0) z.1.b z.1.a z.2):=by
    refine gRun_runs hG ((wq66 (F:=F) (b:=z.2) (g:=z.1.a) (chi:=chi) (ok:=z.1.b)).trans ?_)
    cases z.1.b <;> rfl
  have h68:=gRun_runs hG (wq68 (F:=F) (b:=z.2) (g:=z.1.a) (chi:=bif z.1.b then chi else 0) (ok:=z.1.b))
  exact h35.seq (h36.seq (h41.seq (h56.seq (h65.seq (h66.seq h68)))))
def MeetR (r : GCB × Bool) (c : Code) (s : St) : Prop:=RunsTo Tryz.prog 248 c s .ret (wR r.1.g r.1.chi r.1.ok r.2) ∨ RunsTo Tryz.prog 248 c s .ret (wR2 r.1.g r.1.chi r.1.ok r.2)
omit hG in
theorem MeetR.pre {r : GCB × Bool} {c d : Code} {s s1 : St} (h : RunsTo Tryz.prog 248 d s .normal s1) (k : MeetR r c s1) : MeetR r (.seq d c) s:=by
  rcases k with k | k
  · exact .inl (h.seq k)
  · exact .inr (h.seq k)
theorem mid_runs (g : Gs) (c : M6) (y : R6) (l : M6) (e : Int × Bool) : MeetR (meetMid F g c y l e) (.seq w31 (.seq w33 wEnd)) (wS25 g c y l e.1 e.2):=by
  obtain ⟨chi,b⟩:=e
  unfold meetMid
  cases b with
  | true=>exact .inl ((gRun_runs hG (wq31t (F:=F) (g:=g) (c:=c) (y:=y) (l:=l) (chi:=chi))).seqR)
  | false =>
    refine MeetR.pre (gRun_runs hG (wq31f (F:=F) (g:=g) (c:=c) (y:=y) (l:=l) (chi:=chi))) ?_
    have h33:=wq33 (F:=F) (b:=false) (g:=g) (c:=c) (y:=y) (l:=l) (chi:=chi)
    simp only [cond_false]
    by_cases hc : chi > 32985348833280
    · rw [decide_eq_true hc,cond_true] at h33 ⊢
      have h:=gRun_runs hG h33
      refine .inl (RunsTo.seqR (h.weak_end ?_ (Nat.le_refl _) (Nat.le_refl _)))
      rw [← wq33_ret g c y l chi false]
      exact dropSt_wk _ _ _
    · rw [decide_eq_false hc,cond_false,wq33_go] at h33
      rw [decide_eq_false hc,cond_false]
      exact MeetR.pre (gRun_runs hG h33) (.inr (end_runs hG g c y l chi))
theorem meet_runs (b : Bool) (a : Gs × P2 × P2 × Unit) : MeetR (meetO F b a) (.seq w0 (.seq (.seq w1 (.block 0 (.loop wA))) (.seq w6 (.seq w7 (.seq (.seq w8 (.block 2 (.loop wB))) (.seq w15 (.seq w16 (.seq w17 (.seq w18 (.seq (.seq w19 (.block 4 (.loop wD))) (.seq w24 (.seq w25 (.seq (.seq w26 (.block 6 (.loop wE))) (.seq w31 (.seq w33 wEnd))))))))))))))) (startS 248 (.ptr 0 0 :: Args.encs a) (row 57 b)):=by
  obtain ⟨g,sky,body,_⟩:=a
  refine MeetR.pre (gRun_runs hG (wq0 (F:=F) (b:=b) (g:=g) (sky:=sky) (body:=body))) ?_
  unfold meetO
  dsimp only
  refine MeetR.pre ((gRun_runs hG (wq1 (F:=F) (b:=b) (g:=g) (sky:=sky) (body:=body))).seq (meLA (hG:=hG) (b:=b) (g:=g) (sky:=sky) (body:=body))) ?_
  generalize iterF (meFA F) 0 2 ((sky,body),b) = s
  refine MeetR.pre (gRun_runs hG (wq6 (F:=F) (b:=s.2) (g:=g) (sky:=s.1.1) (body:=s.1.2))) ?_
  generalize F.pt s.2 (g,()) = x
  refine MeetR.pre (gRun_runs hG (wq7 (F:=F) (b:=x.2) (g:=g) (sky:=s.1.1) (body:=s.1.2) (x:=x.1))) ?_
  refine MeetR.pre ((gRun_runs hG (wq8 (F:=F) (b:=x.2) (g:=g) (sky:=s.1.1) (body:=s.1.2) (x:=x.1) (Z:=mx0))).seq (meLB (hG:=hG) (b:=x.2) (g:=g) (sky:=s.1.1) (body:=s.1.2) (x:=x.1) (Z:=mx0))) ?_
  generalize iterF (meFB F g.q s.1.1 x.1) 0 13 (mx0,x.2) = z
  refine MeetR.pre (gRun_runs hG (wq15 (F:=F) (b:=z.2) (g:=g) (sky:=s.1.1) (body:=s.1.2) (x:=x.1) (Z:=z.1))) ?_
  generalize F.cen z.2 (x13of z.1) = d
  refine MeetR.pre (gRun_runs hG (wq16 (F:=F) (b:=d.2) (g:=g) (body:=s.1.2) (x:=x.1) (z:=d.1.x) (m:=d.1.m))) ?_
  generalize F.pro d.2 d.1.x d.1.x = p
  generalize F.pro p.2 x.1 d.1.x = c
  refine MeetR.pre (gRun_runs hG (wq17 (F:=F) (b:=c.2) (g:=g) (body:=s.1.2) (m:=d.1.m) (s:=p.1) (c:=c.1))) ?_
  generalize F.ont c.2 p.1 67108864 268435456 = n
  refine MeetR.pre (gRun_runs hG (wq18 (F:=F) (b:=n.2) (g:=g) (body:=s.1.2) (m:=d.1.m) (s:=n.1) (c:=c.1))) ?_
  refine MeetR.pre ((gRun_runs hG (wq19 (F:=F) (b:=n.2) (g:=g) (m:=d.1.m) (s:=n.1) (c:=c.1) (Y:=(joinV s.1.2.a s.1.2.b).at))).seq (meLD (hG:=hG) (b:=n.2) (g:=g) (m:=d.1.m) (s:=n.1) (c:=c.1) (Y:=(joinV s.1.2.a s.1.2.b).at))) ?_
  generalize iterF (meFD F d.1.m) 0 6 ((joinV s.1.2.a s.1.2.b).at,n.2) = y
  refine MeetR.pre (gRun_runs hG (wq24 (F:=F) (b:=y.2) (g:=g) (m:=d.1.m) (s:=n.1) (c:=c.1) (Y:=y.1))) ?_
  generalize F.rt y.2 (n.1,6,()) = l
  refine MeetR.pre (gRun_runs hG (wq25 (F:=F) (b:=l.2) (g:=g) (c:=c.1) (y:=R6.of y.1) (l:=l.1))) ?_
  refine MeetR.pre ((gRun_runs hG (wq26 (F:=F) (b:=l.2) (g:=g) (c:=c.1) (y:=R6.of y.1) (l:=l.1) (chi:=0))).seq (meLE (hG:=hG) (b:=(F.so l.2 (l.1,R6.of y.1,6,())).2) (g:=g) (c:=c.1) (y:=R6.of y.1) (l:=l.1) (u:=(F.so l.2 (l.1,R6.of y.1,6,())).1) (chi:=0))) ?_
  generalize F.so l.2 (l.1,R6.of y.1,6,()) = u
  exact mid_runs hG g c.1 (R6.of y.1) l.1 _
end
theorem f21_is : Tryz.prog.funcs[21]? = some Tryz.f21:=by kernel_rfl
theorem okMeet {F : GOps} (hG : GamOk Tryz.prog (eE F).gam) : SumOk Tryz.prog 21 (S 57 (meetO F)):=by
  intro args cs r cs' h
  obtain ⟨b,a,rfl,rfl,rfl,rfl⟩:=S_sel h
  have hr:=meet_runs hG b a
  obtain ⟨g,sky,body,u⟩:=a
  rcases hr with hr | hr
  · refine sum_runs f21_is wC_is wN (by show 4 ≤ 248; omega) (by simp [row]) rfl rfl rfl (.inr rfl) hr (wRes ..) rfl rfl (fun b' c hb=>?_) rfl rfl
    match b',hb with
    | 0,hb=>cases hb; rfl
    | n + 1,hb=>simp [row] at hb
  · refine sum_runs f21_is wC_is wN (by show 4 ≤ 248; omega) (by simp [row]) rfl rfl rfl (.inr rfl) hr (wRes2 ..) rfl rfl (fun b' c hb=>?_) rfl rfl
    match b',hb with
    | 0,hb=>cases hb; rfl
    | n + 1,hb=>simp [row] at hb
end Go.Ab
namespace Go.Ab
open Go Go.Proofs
theorem apply85_1 (o : Ops) (b : Bool) (m : M6) (y : R6) : fnSum Tryz.prog { gam:=gamN o } [] 20 67 [.ptr 0 0,.val (Cod.enc m),.val (Cod.enc y),.val (.int .i64 1)] (row 57 b) = applyT o 57 b m y 1:=by kernel_rfl
theorem apply85_2 (o : Ops) (b : Bool) (m : M6) (y : R6) : fnSum Tryz.prog { gam:=gamN o } [] 20 67 [.ptr 0 0,.val (Cod.enc m),.val (Cod.enc y),.val (.int .i64 2)] (row 57 b) = applyT o 57 b m y 2:=by kernel_rfl
theorem apply85_3 (o : Ops) (b : Bool) (m : M6) (y : R6) : fnSum Tryz.prog { gam:=gamN o } [] 20 67 [.ptr 0 0,.val (Cod.enc m),.val (Cod.enc y),.val (.int .i64 3)] (row 57 b) = applyT o 57 b m y 3:=by kernel_rfl
theorem apply85_4 (o : Ops) (b : Bool) (m : M6) (y : R6) : fnSum Tryz.prog { gam:=gamN o } [] 20 67 [.ptr 0 0,.val (Cod.enc m),.val (Cod.enc y),.val (.int .i64 4)] (row 57 b) = applyT o 57 b m y 4:=by kernel_rfl
theorem apply85_5 (o : Ops) (b : Bool) (m : M6) (y : R6) : fnSum Tryz.prog { gam:=gamN o } [] 20 67 [.ptr 0 0,.val (Cod.enc m),.val (Cod.enc y),.val (.int .i64 5)] (row 57 b) = applyT o 57 b m y 5:=by kernel_rfl
theorem apply85_6 (o : Ops) (b : Bool) (m : M6) (y : R6) : fnSum Tryz.prog { gam:=gamN o } [] 20 67 [.ptr 0 0,.val (Cod.enc m),.val (Cod.enc y),.val (.int .i64 6)] (row 57 b) = applyT o 57 b m y 6:=by kernel_rfl
end Go.Ab
namespace Go.Ab
open Go Go.Proofs
theorem apply85_bad (o : Ops) (b : Bool) (m : M6) (y : R6) (n : Int) : fnSum Tryz.prog { gam:=gamN o } mute 20 67 [.ptr 0 0,.val (Cod.enc m),.val (Cod.enc y),.val (.int .i64 n)] (row 57 b) = badT 57 (Cod.enc R6.zero) b n:=by kernel_rfl
theorem ok85 : SumOk Tryz.prog 67 (S 57 (matApply opsF)):=by
  refine S_join fun (a : M6 × R6 × Int × Unit)=>?_
  cases hn : okN a.2.2.1 with
  | false =>
    refine ⟨fun p=>!okN p.2.2.1,by simp only [hn,Bool.not_false],?_⟩
    refine Sc_okH (E:={ gam:=gamN opsF }) gamN_ok (hB:=mute) muteFit 20 fun b p hp=>?_
    obtain ⟨m,y,n,_⟩:=p
    have hp' : okN n = false:=by simpa using hp
    refine ((apply85_bad opsF b m y n).trans (badT_eq hp')).trans ?_
    show _ = some (AV.val (Cod.enc (byN R6.zero n b _).1),row 57 (byN R6.zero n b _).2)
    rw [byN_no _ _ _ hp']
  | true =>
    rcases okN_cases hn with h | h | h | h | h | h
    · refine ⟨fun p=>decide (p.2.2.1 = 1),by simp only [h,decide_true],?_⟩
      refine Sc_ok (E:={ gam:=gamN opsF }) gamN_ok 20 fun b p hp=>?_
      obtain ⟨m,y,n,_⟩:=p
      have hp' : n = 1:=by simpa using hp
      subst hp'
      refine (apply85_1 opsF b m y).trans ?_
      unfold applyT
      rw [doneRT_eq]
      exact endT_eq 57 R6.zero b (doneR (appN opsF m.at y.at 1 b 1))
    · refine ⟨fun p=>decide (p.2.2.1 = 2),by simp only [h,decide_true],?_⟩
      refine Sc_ok (E:={ gam:=gamN opsF }) gamN_ok 20 fun b p hp=>?_
      obtain ⟨m,y,n,_⟩:=p
      have hp' : n = 2:=by simpa using hp
      subst hp'
      refine (apply85_2 opsF b m y).trans ?_
      unfold applyT
      rw [doneRT_eq]
      exact endT_eq 57 R6.zero b (doneR (appN opsF m.at y.at 2 b 2))
    · refine ⟨fun p=>decide (p.2.2.1 = 3),by simp only [h,decide_true],?_⟩
      refine Sc_ok (E:={ gam:=gamN opsF }) gamN_ok 20 fun b p hp=>?_
      obtain ⟨m,y,n,_⟩:=p
      have hp' : n = 3:=by simpa using hp
      subst hp'
      refine (apply85_3 opsF b m y).trans ?_
      unfold applyT
      rw [doneRT_eq]
      exact endT_eq 57 R6.zero b (doneR (appN opsF m.at y.at 3 b 3))
    · refine ⟨fun p=>decide (p.2.2.1 = 4),by simp only [h,decide_true],?_⟩
      refine Sc_ok (E:={ gam:=gamN opsF }) gamN_ok 20 fun b p hp=>?_
      obtain ⟨m,y,n,_⟩:=p
      have hp' : n = 4:=by simpa using hp
      subst hp'
      refine (apply85_4 opsF b m y).trans ?_
      unfold applyT
      rw [doneRT_eq]
      exact endT_eq 57 R6.zero b (doneR (appN opsF m.at y.at 4 b 4))
    · refine ⟨fun p=>decide (p.2.2.1 = 5),by simp only [h,decide_true],?_⟩
      refine Sc_ok (E:={ gam:=gamN opsF }) gamN_ok 20 fun b p hp=>?_
      obtain ⟨m,y,n,_⟩:=p
      have hp' : n = 5:=by simpa using hp
      subst hp'
      refine (apply85_5 opsF b m y).trans ?_
      unfold applyT
      rw [doneRT_eq]
      exact endT_eq 57 R6.zero b (doneR (appN opsF m.at y.at 5 b 5))
    · refine ⟨fun p=>decide (p.2.2.1 = 6),by simp only [h,decide_true],?_⟩
      refine Sc_ok (E:={ gam:=gamN opsF }) gamN_ok 20 fun b p hp=>?_
      obtain ⟨m,y,n,_⟩:=p
      have hp' : n = 6:=by simpa using hp
      subst hp'
      refine (apply85_6 opsF b m y).trans ?_
      unfold applyT
      rw [doneRT_eq]
      exact endT_eq 57 R6.zero b (doneR (appN opsF m.at y.at 6 b 6))
end Go.Ab
namespace Go.Ab
open Go Go.Proofs
theorem solve76_1 (o : Ops) (b : Bool) (m : M6) (y : R6) : fnSum Tryz.prog { gam:=gamN o } [] 20 62 [.ptr 0 0,.val (Cod.enc m),.val (Cod.enc y),.val (.int .i64 1)] (row 57 b) = solveT o 57 b m y 1:=by kernel_rfl
theorem solve76_2 (o : Ops) (b : Bool) (m : M6) (y : R6) : fnSum Tryz.prog { gam:=gamN o } [] 20 62 [.ptr 0 0,.val (Cod.enc m),.val (Cod.enc y),.val (.int .i64 2)] (row 57 b) = solveT o 57 b m y 2:=by kernel_rfl
theorem solve76_3 (o : Ops) (b : Bool) (m : M6) (y : R6) : fnSum Tryz.prog { gam:=gamN o } [] 20 62 [.ptr 0 0,.val (Cod.enc m),.val (Cod.enc y),.val (.int .i64 3)] (row 57 b) = solveT o 57 b m y 3:=by kernel_rfl
theorem solve76_4 (o : Ops) (b : Bool) (m : M6) (y : R6) : fnSum Tryz.prog { gam:=gamN o } [] 20 62 [.ptr 0 0,.val (Cod.enc m),.val (Cod.enc y),.val (.int .i64 4)] (row 57 b) = solveT o 57 b m y 4:=by kernel_rfl
theorem solve76_5 (o : Ops) (b : Bool) (m : M6) (y : R6) : fnSum Tryz.prog { gam:=gamN o } [] 20 62 [.ptr 0 0,.val (Cod.enc m),.val (Cod.enc y),.val (.int .i64 5)] (row 57 b) = solveT o 57 b m y 5:=by kernel_rfl
theorem solve76_6 (o : Ops) (b : Bool) (m : M6) (y : R6) : fnSum Tryz.prog { gam:=gamN o } [] 20 62 [.ptr 0 0,.val (Cod.enc m),.val (Cod.enc y),.val (.int .i64 6)] (row 57 b) = solveT o 57 b m y 6:=by kernel_rfl
end Go.Ab
namespace Go.Ab
open Go Go.Proofs
theorem solve76_bad (o : Ops) (b : Bool) (m : M6) (y : R6) (n : Int) : fnSum Tryz.prog { gam:=gamN o } mute 20 62 [.ptr 0 0,.val (Cod.enc m),.val (Cod.enc y),.val (.int .i64 n)] (row 57 b) = badT 57 (Cod.enc R6.zero) b n:=by kernel_rfl
theorem ok76 : SumOk Tryz.prog 62 (S 57 (matSolve opsF)):=by
  refine S_join fun (a : M6 × R6 × Int × Unit)=>?_
  cases hn : okN a.2.2.1 with
  | false =>
    refine ⟨fun p=>!okN p.2.2.1,by simp only [hn,Bool.not_false],?_⟩
    refine Sc_okH (E:={ gam:=gamN opsF }) gamN_ok (hB:=mute) muteFit 20 fun b p hp=>?_
    obtain ⟨m,y,n,_⟩:=p
    have hp' : okN n = false:=by simpa using hp
    refine ((solve76_bad opsF b m y n).trans (badT_eq hp')).trans ?_
    show _ = some (AV.val (Cod.enc (byN R6.zero n b _).1),row 57 (byN R6.zero n b _).2)
    rw [byN_no _ _ _ hp']
  | true =>
    rcases okN_cases hn with h | h | h | h | h | h
    · refine ⟨fun p=>decide (p.2.2.1 = 1),by simp only [h,decide_true],?_⟩
      refine Sc_ok (E:={ gam:=gamN opsF }) gamN_ok 20 fun b p hp=>?_
      obtain ⟨m,y,n,_⟩:=p
      have hp' : n = 1:=by simpa using hp
      subst hp'
      refine (solve76_1 opsF b m y).trans ?_
      unfold solveT
      rw [doneRT_eq]
      exact endT_eq 57 R6.zero b (doneR (solve0 opsF b m y 1))
    · refine ⟨fun p=>decide (p.2.2.1 = 2),by simp only [h,decide_true],?_⟩
      refine Sc_ok (E:={ gam:=gamN opsF }) gamN_ok 20 fun b p hp=>?_
      obtain ⟨m,y,n,_⟩:=p
      have hp' : n = 2:=by simpa using hp
      subst hp'
      refine (solve76_2 opsF b m y).trans ?_
      unfold solveT
      rw [doneRT_eq]
      exact endT_eq 57 R6.zero b (doneR (solve0 opsF b m y 2))
    · refine ⟨fun p=>decide (p.2.2.1 = 3),by simp only [h,decide_true],?_⟩
      refine Sc_ok (E:={ gam:=gamN opsF }) gamN_ok 20 fun b p hp=>?_
      obtain ⟨m,y,n,_⟩:=p
      have hp' : n = 3:=by simpa using hp
      subst hp'
      refine (solve76_3 opsF b m y).trans ?_
      unfold solveT
      rw [doneRT_eq]
      exact endT_eq 57 R6.zero b (doneR (solve0 opsF b m y 3))
    · refine ⟨fun p=>decide (p.2.2.1 = 4),by simp only [h,decide_true],?_⟩
      refine Sc_ok (E:={ gam:=gamN opsF }) gamN_ok 20 fun b p hp=>?_
      obtain ⟨m,y,n,_⟩:=p
      have hp' : n = 4:=by simpa using hp
      subst hp'
      refine (solve76_4 opsF b m y).trans ?_
      unfold solveT
      rw [doneRT_eq]
      exact endT_eq 57 R6.zero b (doneR (solve0 opsF b m y 4))
    · refine ⟨fun p=>decide (p.2.2.1 = 5),by simp only [h,decide_true],?_⟩
      refine Sc_ok (E:={ gam:=gamN opsF }) gamN_ok 20 fun b p hp=>?_
      obtain ⟨m,y,n,_⟩:=p
      have hp' : n = 5:=by simpa using hp
      subst hp'
      refine (solve76_5 opsF b m y).trans ?_
      unfold solveT
      rw [doneRT_eq]
      exact endT_eq 57 R6.zero b (doneR (solve0 opsF b m y 5))
    · refine ⟨fun p=>decide (p.2.2.1 = 6),by simp only [h,decide_true],?_⟩
      refine Sc_ok (E:={ gam:=gamN opsF }) gamN_ok 20 fun b p hp=>?_
      obtain ⟨m,y,n,_⟩:=p
      have hp' : n = 6:=by simpa using hp
      subst hp'
      refine (solve76_6 opsF b m y).trans ?_
      unfold solveT
      rw [doneRT_eq]
      exact endT_eq 57 R6.zero b (doneR (solve0 opsF b m y 6))
end Go.Ab
namespace Go.Ab
open Go Go.Proofs
def frF : RFun:=fromRod opsF vopsF (qunit opsF)
def tuF : TFun:=turnedO qmul frF
def ptF : Bool→Gs × Unit→X13 × Bool:=fun b p=>pointsJ opsF (matRootN opsF) jobsP b p.1
def stF : Bool→V4 × V3 × R6 × M6 × Unit→Two Gs Bool × Bool:=settleO (vop fadd) (qunit opsF) tuF
def FP : FOps:={ o:=opsF,vs:=vop fsub,tu:=tuF,un:=qunit opsF,mu:=qmul,tr:=toRod opsF,bk:=qback,pt:=ptF,cen:=centerV opsF,pro:=prodV opsF,ont:=ontoV opsF,st:=stF }
def GP : GOps:={ o:=opsF,vu:=vunit opsF,tu:=tuF,qt:=qturn vopsF,pt:=ptF,cen:=centerV opsF,pro:=prodV opsF,ont:=ontoV opsF,rt:=matRootN opsF,so:=matSolve opsF,ap:=matApply opsF,st:=stF }
theorem okTurned : SumOk Tryz.prog 54 (S 57 tuF):=S_ok (E:={ gam:=[(135,S 57 qmul),(142,S 57 frF)] }) (.cons ok92 (.cons ok80 .nil)) 20 fun b a=>turned54 qmul frF b a.1 a.2.1
theorem okSettle : SumOk Tryz.prog 66 (S 57 stF):=S_ok (E:={ gam:=[(146,S 57 (vop fadd)),(133,S 57 (qunit opsF)),(54,S 57 tuF),(53,S0 fun (p : R6 × Unit)=>halvesV p.1)] }) (.cons ok50 (.cons ok72 (.cons okTurned (.cons okHalves .nil)))) 20 fun b a=>by
  refine (settle66 (vop fadd) (qunit opsF) tuF b a.1 a.2.1 a.2.2.1 a.2.2.2.1).trans ?_
  unfold stF settleO
  dsimp only
  generalize settle0 (vop fadd) (qunit opsF) tuF b a.1 a.2.1 a.2.2.1 a.2.2.2.1 = r
  obtain ⟨r,f⟩:=r
  cases f <;> rfl
theorem gamFP : GamOk Tryz.prog (eM FP).gam:=.cons ok52 (.cons okTurned (.cons ok72 (.cons ok92 (.cons ok82 (.cons ok91 (.cons ok107 (.cons (okCtr gamN_ok) (.cons (okPrd gamN_ok) (.cons (okOnt gamN_ok) (.cons okSettle (.cons okHalves (.cons okJoin (.cons ok116 (.cons ok115 .nil))))))))))))))
theorem gamGP : GamOk Tryz.prog (eE GP).gam:=.cons ok68 (.cons okTurned (.cons ok87 (.cons ok107 (.cons (okCtr gamN_ok) (.cons (okPrd gamN_ok) (.cons (okOnt gamN_ok) (.cons ok64 (.cons ok76 (.cons ok85 (.cons okSettle (.cons okHalves (.cons okJoin (.cons ok124 (.cons ok127 (.cons ok121 (.cons ok116 .nil))))))))))))))))
theorem okMeetF : SumOk Tryz.prog 21 (S 57 (meetO GP)):=okMeet gamGP
theorem okMoveF : SumOk Tryz.prog 49 (S 57 (moveO FP)):=okMove gamFP
end Go.Ab
namespace Go.Ab
open Go Go.Proofs
def orJ (a b : Int) : Int:=IntKind.i64.wrap ((BitVec.ofInt IntKind.i64.bits a ||| BitVec.ofInt IntKind.i64.bits b).toNat : Int)
def blk1 (s : Stp) (c : Crf) (r : Rds) : Option (AV × List Con):=some (unit0,stpBlk s c r)
theorem plan92 (nx : Pl × Sn × Unit→Pl) (at_ : Bool→P2 × P2 × Unit→V4 × Bool) (st : V4 × Unit→Gs) (s : Stp) (c : Crf) (r : Rds) : fnSum Tryz.prog { gam:=[(173,S0 nx),(174,S 57 at_),(48,S0 st)] } [] 20 92 [.ptr 0 0] (stpBlk s c r) =
    bif (nx (c.plan,s.seen,())).mode == 2 then bif c.plan.mode != 2 then bif (at_ false (s.sky,s.body,())).2 then blk1 s { c with plan:=⟨1,0,0,0,0,orJ (nx (c.plan,s.seen,())).faults 4⟩,guess:=Gs.zero } r
      else bif (nx (c.plan,s.seen,())).mode != 2 then blk1 s { c with plan:=nx (c.plan,s.seen,()),guess:=Gs.zero } r else blk1 s { c with plan:=nx (c.plan,s.seen,()),guess:=st ((at_ false (s.sky,s.body,())).1,()) } r
      else bif (nx (c.plan,s.seen,())).mode != 2 then blk1 s { c with plan:=nx (c.plan,s.seen,()),guess:=Gs.zero } r else blk1 s { c with plan:=nx (c.plan,s.seen,()) } r
    else bif (nx (c.plan,s.seen,())).mode != 2 then blk1 s { c with plan:=nx (c.plan,s.seen,()),guess:=Gs.zero } r else blk1 s { c with plan:=nx (c.plan,s.seen,()) } r:=by kernel_rfl
end Go.Ab
namespace Go.Ab
open Go Go.Proofs
def filtE (sp : Bool→Gs × Unit→Int × Bool) (s : Stp) (c : Crf) (r : Rds) (g : Gs) (pass fl : Bool) : Option (AV × List Con) :=
  bif decide ((sp fl (g,())).1 > 274877906944) then blk1 { s with seen:={ s.seen with pass:=pass,bad:=true } } { c with guess:=g } r
  else blk1 { s with seen:={ s.seen with pass:=pass,bad:=(sp fl (g,())).2 } } { c with guess:=g } r
def filtM (me : Bool→Gs × P2 × P2 × Unit→GCB × Bool) (sp : Bool→Gs × Unit→Int × Bool) (s : Stp) (c : Crf) (r : Rds) (m : Gs × Bool) : Option (AV × List Con) :=
  bif s.seen.pair then bif s.seen.lit then filtE sp s c r (me m.2 (m.1,s.sky,s.body,())).1.g (me m.2 (m.1,s.sky,s.body,())).1.ok (me m.2 (m.1,s.sky,s.body,())).2
    else filtE sp s c r m.1 s.seen.pass m.2
  else filtE sp s c r m.1 s.seen.pass m.2
theorem filter91 (mv : Bool→Gs × V3 × Int × Unit→Gs × Bool) (me : Bool→Gs × P2 × P2 × Unit→GCB × Bool) (sp : Bool→Gs × Unit→Int × Bool) (s : Stp) (c : Crf) (r : Rds) :
    fnSum Tryz.prog { gam:=[(49,S 57 mv),(21,S 57 me),(50,S 57 sp)] } [] 20 91 [.ptr 0 0] (stpBlk s c r) =
    bif s.seen.gyro then bif r.p1 then filtM me sp s c r (mv false (c.guess,r.r1.v,s.gap,())) else filtM me sp s c r (mv false (c.guess,V3.zero,s.gap,()))
    else filtM me sp s c r (mv false (c.guess,c.guess.bias,s.gap,())):=by kernel_rfl
end Go.Ab
namespace Go.Ab
open Go Go.Proofs
structure LkOps where
  vn : Bool→V3 × Unit→Int × Bool
  pl : Bool→Orb × Int × Unit→V3 × Bool
  su : Bool→Int × Unit→V3 × Bool
  sk : Bool→V3 × Int × Unit→V3 × Bool
  sh : Bool→V3 × V3 × Unit→Bool × Bool
  ap : Bool→V3 × V3 × Unit→Bool × Bool
def gamLk (F : LkOps) : Gam:=[(137,S 57 F.vn),(168,S 57 F.pl),(169,S 57 F.su),(170,S 57 F.sk),(171,S 57 F.sh),(172,S 57 F.ap)]
def lkB (s : Stp) (c : Crf) (r : Rds) (a b : V3) (p : Bool) : Option (AV × List Con):=blk1 { s with body:=⟨a,b⟩,seen:={ s.seen with pair:=p } } c r
def lkP (F : LkOps) (s : Stp) (c : Crf) (r : Rds) (fl : Bool) : Option (AV × List Con) :=
  bif r.p2 then bif r.p3 then bif (F.ap fl (s.sky.a,s.sky.b,())).1 then lkB s c r r.r2.v r.r3.v (F.ap (F.ap fl (s.sky.a,s.sky.b,())).2 (r.r2.v,r.r3.v,())).1 else lkB s c r r.r2.v r.r3.v false
    else lkB s c r r.r2.v V3.zero false
  else bif r.p3 then lkB s c r V3.zero r.r3.v false else lkB s c r V3.zero V3.zero false
def lkS (F : LkOps) (s : Stp) (c : Crf) (r : Rds) (pl su sk : V3 × Bool) : Option (AV × List Con) :=
  bif sk.2 then blk1 { s with sky:=⟨su.1,sk.1⟩ } c r else lkP F { s with sky:=⟨su.1,sk.1⟩,seen:={ s.seen with lit:=!(F.sh false (pl.1,su.1,())).1 } } c r sk.2
def lkG (F : LkOps) (s : Stp) (c : Crf) (r : Rds) : Option (AV × List Con) :=
  bif !c.placed then blk1 s c r else
    lkS F s c r (F.pl false (c.orb,s.tk,())) (F.su (F.pl false (c.orb,s.tk,())).2 (s.tk,())) (F.sk (F.su (F.pl false (c.orb,s.tk,())).2 (s.tk,())).2 ((F.pl false (c.orb,s.tk,())).1,s.tk,()))
theorem look90 (F : LkOps) (s : Stp) (c : Crf) (r : Rds) : fnSum Tryz.prog { gam:=gamLk F } [] 20 90 [.ptr 0 0] (stpBlk s c r) =
    bif r.p1 then lkG F { s with seen:={ s.seen with gyro:=true,slow:=decide ((F.vn false (r.r1.v,())).1 ≤ 54975581388) } } c r else lkG F { s with seen:={ s.seen with gyro:=false } } c r:=by kernel_rfl
end Go.Ab
namespace Go.Ab
open Go Go.Proofs
noncomputable def lfirst : Array Oper:=match Tryz.f225.body with | some (.seq (.region _ ops _) _)=>ops | _=>#[]
theorem lbody : Tryz.f225.body = some (.seq (.region 0 lfirst false) (.seq (.region 1 lops true) .ret)):=by kernel_rfl
theorem lfirst_wp (Q : Exit→Act→World→Prop) (a : Act) (w : World) (h : Q .normal (a.put (some 0) (.map none)) w) : wpOps Tryz.prog lfirst Q (List.range lfirst.size) a w:=by
  have e1 : List.range lfirst.size = [0]:=by kernel_rfl
  obtain ⟨o,ho,hop,hd,hg⟩ : ∃ o,lfirst[0]? = some o ∧ o.op = .assign (.const (.map none)) ∧ o.dst = some 0 ∧ o.guard = none:=by
    have : (lfirst[0]?).map (fun o=>(o.op,o.dst,o.guard.isNone)) = some (.assign (.const (.map none)),some 0,true):=by kernel_rfl
    cases ho : lfirst[0]? with
    | none=>rw [ho] at this; cases this
    | some o =>
      rw [ho] at this
      simp only [Option.map_some,Option.some.injEq,Prod.mk.injEq] at this
      exact ⟨o,rfl,this.1,this.2.1,by simpa using this.2.2⟩
  rw [e1,wpOps_cons]
  unfold wpOp
  rw [ho]
  simp only
  rw [if_pos (by simp [Region.wanted,hg])]
  refine .inl ?_
  unfold Oper.wp
  have e2 : (execOp a.eval o).run Tryz.prog w = .ok (.value (.map none)) w:=by simp only [execOp,hop,Act.eval,Sem.run_pure]
  rw [e2,Oper.upon_value,hd]
  simpa [wpOps] using h
theorem leads_calls (w : World) : Calls Tryz.prog 225 #[] w fun e w'=>∃ es c,e = .returned (.map (some w.heap.size)) ∧ w'.heap = w.heap.push (.map es c) ∧ (∀ p,p ∈ es.toList.map kvOf ↔ p ∈ pairsOf lbuf) ∧ w'.os = w.os ∧ w'.tape = w.tape ∧ w'.output = w.output:=by
  refine calls_of_wp Tryz.func225 lbody (wp_seq (wp_region (lfirst_wp _ _ _ (wp_seq (wp_region_any (by kernel_rfl) ?_)))))
  rw [lop_size]
  have hst : LI w (fun i=>(Array.replicate 13 false).getD i true) (Act.put { tmps:=(#[] : Array Value) ++ Array.replicate (Tryz.f225.ntmps - (#[] : Array Value).size) undef,defers:=[] } (some 0) (.map none)) { w with drawn:=w.drawn + 1 }:=by
    have hz : ∀ i,i < 13→(Array.replicate 13 false).getD i true = false:=fun i hi=>by simp [hi]
    refine ⟨rfl,by simp [Act.put],rfl,rfl,rfl,fun _=>rfl,fun h=>?_,fun i hi h=>?_,fun h=>?_,fun h=>?_,fun _ i hi=>hz _ (by omega)⟩
    · rw [hz _ (by omega)] at h; cases h
    · rw [hz _ (by omega)] at h; cases h
    · rw [hz _ (by omega)] at h; cases h
    · rw [hz _ (by omega)] at h; cases h
  refine LI.all _ (fun L a' w' h hall=>?_) 13 _ _ _ (by simp) (by simp) hst
  obtain ⟨_,es,c,h2,h3⟩:=h.m1 (hall 0 (by omega))
  have h0:=h.asg (hall 12 (by omega))
  have hres : (results Tryz.f225 a'.tmps).run Tryz.prog w' = .ok (.map (some w.heap.size)) w':=by
    simp [results,h0]
  refine wp_ret ?_
  refine bodyPost_ret hres h.defers ⟨es,c,rfl,h2,fun p=>(h3 p).trans ?_,h.os,h.tape,h.output⟩
  constructor
  · rintro ⟨i,hi,_,rfl⟩
    match i,hi with
    | 0,_ | 1,_ | 2,_ | 3,_ | 4,_=>simp [lbuf,pairsOf]
  · intro hp
    simp only [lbuf,pairsOf,List.mem_cons,List.not_mem_nil,or_false] at hp
    rcases hp with rfl | rfl | rfl | rfl | rfl
    · exact ⟨0,by omega,hall _ (by omega),rfl⟩
    · exact ⟨1,by omega,hall _ (by omega),rfl⟩
    · exact ⟨2,by omega,hall _ (by omega),rfl⟩
    · exact ⟨3,by omega,hall _ (by omega),rfl⟩
    · exact ⟨4,by omega,hall _ (by omega),rfl⟩
def lmap : Obj:=.chan 0 (List.toArray lbuf) false 0 0 false
def leadsS : Summary:=fun args cs=>match args,cs with
  | [],[]=>.ret (.map 0) [.obj lmap]
  | _,_=>.no
theorem leads_ok : SumOk Tryz.prog 225 leadsS:=by
  intro args cs r cs' hs
  unfold leadsS at hs
  split at hs
  · simp only [STr.sel,Option.some.injEq,Prod.mk.injEq] at hs
    obtain ⟨rfl,rfl⟩:=hs
    refine ⟨by simp,fun σ vals w hinj hbd hvals _ hn=>?_⟩
    simp only [Rels] at hvals
    subst hvals
    refine Calls.mono (leads_calls w) fun e w' he=>?_
    obtain ⟨es,c,rfl,h1,h2,h3,h4,h5⟩:=he
    have h0 : σ 0 = none:=hn 0 (by simp) (by simp)
    have hle : Le σ (fun b=>if b = 0 then some w.heap.size else σ b):=by
      intro b r hb
      show (if b = 0 then _ else _) = _
      rw [if_neg (fun e=>by rw [e,h0] at hb; cases hb)]
      exact hb
    have hheap : ∀ k,k < w.heap.size→w'.heap[k]? = w.heap[k]?:=fun k hk=>by rw [h1,Array.getElem?_push_lt hk,Array.getElem?_eq_getElem hk]
    refine ⟨_,_,rfl,hle,fun b hb hb2=>?_,?_,?_,?_,?_,?_,h3,h4,h5,by rw [h1]; simp,fun k hk _=>hheap k hk⟩
    · simp only [List.length_nil,List.length_cons] at hb2
      show (if b = 0 then _ else _) = _
      rw [if_neg (by omega)]; exact hb
    · simp only [Rel]; exact ⟨w.heap.size,by simp,rfl⟩
    · intro b cc hb
      simp only [numH,hget] at hb
      split at hb
      · rename_i e
        have:=Nat.eq_of_beq_eq_true e
        subst this
        cases hb
        refine ⟨w.heap.size,.map es c,by simp,by rw [h1]; simp,es,c,rfl,fun p=>(h2 p).trans (by simp)⟩
      · cases hb
    · intro b b' r hb hb'
      split at hb <;> split at hb'
      · omega
      · simp only [Option.some.injEq] at hb; have:=hbd _ _ hb'; omega
      · simp only [Option.some.injEq] at hb'; have:=hbd _ _ hb; omega
      · exact hinj _ _ _ hb hb'
    · intro b r hb
      split at hb
      · simp only [Option.some.injEq] at hb; rw [h1]; simp; omega
      · have:=hbd _ _ hb; rw [h1]; simp; omega
    · intro b cc hb
      simp only [numH,hget] at hb
      split at hb
      · rename_i e
        have:=Nat.eq_of_beq_eq_true e
        subst this
        exact .inr fun r hr=>by simp only [if_true,Option.some.injEq] at hr; omega
      · cases hb
  · simp [STr.sel] at hs
end Go.Ab
namespace Go.Ab
open Go Go.Proofs
def agS (ag : Bool→Int→Int) : Summary:=fun args cs=>match args,cs with
  | [.ptr 0 k,.val (.bool so),.val (.int .i64 m)],[.row 28 [.val (.int .i64 c0),.val (.int .i64 c1),.val (.int .i64 c2),.val (.int .i64 c3),.val (.int .i64 c4),.val (.int .i64 c5)]]=>match k with
    | 1=>.ret (.val (.bool (decide (ag so c1 ≥ m)))) [.row 28 [.val (.int .i64 c0),.val (.int .i64 (ag so c1)),.val (.int .i64 c2),.val (.int .i64 c3),.val (.int .i64 c4),.val (.int .i64 c5)]]
    | 2=>.ret (.val (.bool (decide (ag so c2 ≥ m)))) [.row 28 [.val (.int .i64 c0),.val (.int .i64 c1),.val (.int .i64 (ag so c2)),.val (.int .i64 c3),.val (.int .i64 c4),.val (.int .i64 c5)]]
    | 3=>.ret (.val (.bool (decide (ag so c3 ≥ m)))) [.row 28 [.val (.int .i64 c0),.val (.int .i64 c1),.val (.int .i64 c2),.val (.int .i64 (ag so c3)),.val (.int .i64 c4),.val (.int .i64 c5)]]
    | 4=>.ret (.val (.bool (decide (ag so c4 ≥ m)))) [.row 28 [.val (.int .i64 c0),.val (.int .i64 c1),.val (.int .i64 c2),.val (.int .i64 c3),.val (.int .i64 (ag so c4)),.val (.int .i64 c5)]]
    | _=>.no
  | _,_=>.no
def agV (so : Bool) (n : Int) : Int:=bif so then cntV n else 0
theorem enc_cond {α : Type} [Cod α] (c : Bool) (x y : α) : (some (AV.val (Cod.enc (cond c x y)),([] : List Con))) = cond c (some (AV.val (Cod.enc x),[])) (some (AV.val (Cod.enc y),[])):=by cases c <;> rfl
theorem ag_lt (n : Int) : decide (n < 100) = !decide (n ≥ 100):=by
  by_cases h : n < 100
  · rw [decide_eq_true h,decide_eq_false (by omega)]; rfl
  · rw [decide_eq_false h,decide_eq_true (by omega)]; rfl
def row23 (c0 c1 c2 c3 c4 c5 : Int) : List Con:=[.row 28 [.val (.int .i64 c0),.val (.int .i64 c1),.val (.int .i64 c2),.val (.int .i64 c3),.val (.int .i64 c4),.val (.int .i64 c5)]]
theorem t15_1 (so : Bool) (m c0 c1 c2 c3 c4 c5 : Int) : fnSum Tryz.prog { gam:=[] } [] 20 226 [.ptr 0 1,.val (.bool so),.val (.int .i64 m)] (row23 c0 c1 c2 c3 c4 c5) =
  bif !so then some (.val (.bool (decide (0 ≥ m))),row23 c0 0 c2 c3 c4 c5) else bif decide (c1 < 100) then some (.val (.bool (decide (IntKind.i64.wrap (c1 + 1) ≥ m))),row23 c0 (IntKind.i64.wrap (c1 + 1)) c2 c3 c4 c5) else some (.val (.bool (decide (100 ≥ m))),row23 c0 100 c2 c3 c4 c5):=by kernel_rfl
theorem v15_1 (so : Bool) (m c0 c1 c2 c3 c4 c5 : Int) : fnSum Tryz.prog { gam:=[] } [] 20 226 [.ptr 0 1,.val (.bool so),.val (.int .i64 m)] (row23 c0 c1 c2 c3 c4 c5) = some (.val (.bool (decide (agV so c1 ≥ m))),row23 c0 (agV so c1) c2 c3 c4 c5):=by
  rw [t15_1,ag_lt]
  unfold agV cntV
  cases so
  · rfl
  · cases decide (c1 ≥ 100) <;> rfl
theorem t15_2 (so : Bool) (m c0 c1 c2 c3 c4 c5 : Int) : fnSum Tryz.prog { gam:=[] } [] 20 226 [.ptr 0 2,.val (.bool so),.val (.int .i64 m)] (row23 c0 c1 c2 c3 c4 c5) =
  bif !so then some (.val (.bool (decide (0 ≥ m))),row23 c0 c1 0 c3 c4 c5) else bif decide (c2 < 100) then some (.val (.bool (decide (IntKind.i64.wrap (c2 + 1) ≥ m))),row23 c0 c1 (IntKind.i64.wrap (c2 + 1)) c3 c4 c5) else some (.val (.bool (decide (100 ≥ m))),row23 c0 c1 100 c3 c4 c5):=by kernel_rfl
theorem v15_2 (so : Bool) (m c0 c1 c2 c3 c4 c5 : Int) : fnSum Tryz.prog { gam:=[] } [] 20 226 [.ptr 0 2,.val (.bool so),.val (.int .i64 m)] (row23 c0 c1 c2 c3 c4 c5) = some (.val (.bool (decide (agV so c2 ≥ m))),row23 c0 c1 (agV so c2) c3 c4 c5):=by
  rw [t15_2,ag_lt]
  unfold agV cntV
  cases so
  · rfl
  · cases decide (c2 ≥ 100) <;> rfl
theorem t15_3 (so : Bool) (m c0 c1 c2 c3 c4 c5 : Int) : fnSum Tryz.prog { gam:=[] } [] 20 226 [.ptr 0 3,.val (.bool so),.val (.int .i64 m)] (row23 c0 c1 c2 c3 c4 c5) =
  bif !so then some (.val (.bool (decide (0 ≥ m))),row23 c0 c1 c2 0 c4 c5) else bif decide (c3 < 100) then some (.val (.bool (decide (IntKind.i64.wrap (c3 + 1) ≥ m))),row23 c0 c1 c2 (IntKind.i64.wrap (c3 + 1)) c4 c5) else some (.val (.bool (decide (100 ≥ m))),row23 c0 c1 c2 100 c4 c5):=by kernel_rfl
theorem v15_3 (so : Bool) (m c0 c1 c2 c3 c4 c5 : Int) : fnSum Tryz.prog { gam:=[] } [] 20 226 [.ptr 0 3,.val (.bool so),.val (.int .i64 m)] (row23 c0 c1 c2 c3 c4 c5) = some (.val (.bool (decide (agV so c3 ≥ m))),row23 c0 c1 c2 (agV so c3) c4 c5):=by
  rw [t15_3,ag_lt]
  unfold agV cntV
  cases so
  · rfl
  · cases decide (c3 ≥ 100) <;> rfl
theorem t15_4 (so : Bool) (m c0 c1 c2 c3 c4 c5 : Int) : fnSum Tryz.prog { gam:=[] } [] 20 226 [.ptr 0 4,.val (.bool so),.val (.int .i64 m)] (row23 c0 c1 c2 c3 c4 c5) =
  bif !so then some (.val (.bool (decide (0 ≥ m))),row23 c0 c1 c2 c3 0 c5) else bif decide (c4 < 100) then some (.val (.bool (decide (IntKind.i64.wrap (c4 + 1) ≥ m))),row23 c0 c1 c2 c3 (IntKind.i64.wrap (c4 + 1)) c5) else some (.val (.bool (decide (100 ≥ m))),row23 c0 c1 c2 c3 100 c5):=by kernel_rfl
theorem v15_4 (so : Bool) (m c0 c1 c2 c3 c4 c5 : Int) : fnSum Tryz.prog { gam:=[] } [] 20 226 [.ptr 0 4,.val (.bool so),.val (.int .i64 m)] (row23 c0 c1 c2 c3 c4 c5) = some (.val (.bool (decide (agV so c4 ≥ m))),row23 c0 c1 c2 c3 (agV so c4) c5):=by
  rw [t15_4,ag_lt]
  unfold agV cntV
  cases so
  · rfl
  · cases decide (c4 ≥ 100) <;> rfl
theorem ok15 : SumOk Tryz.prog 226 (agS agV):=by
  refine sumOk_of GamOk.nil (E:={ gam:=[] }) fun args cs r cs' hs=>?_
  unfold agS at hs
  split at hs
  · split at hs <;> simp only [STr.sel,Option.some.injEq,Prod.mk.injEq,reduceCtorEq] at hs <;> obtain ⟨rfl,rfl⟩:=hs
    · exact ⟨by simp,20,v15_1 ..⟩
    · exact ⟨by simp,20,v15_2 ..⟩
    · exact ⟨by simp,20,v15_3 ..⟩
    · exact ⟨by simp,20,v15_4 ..⟩
  · simp [STr.sel] at hs
end Go.Ab
