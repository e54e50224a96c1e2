/- A part of the proof of 'CraftHolds': lemmas, no statement of their own; no condition. -/
import Derived.Test.YtoocjipllmkjcaaGreatFjB0
import Derived.Test.YtoocjipllmkjcaaGreatGBeA
import Derived.Test.YtoocjipllmkjcaaGreatGFuC0
namespace Go.Ab
open Go Go.Proofs
def psH(x:Mx)(b:Bool)(m:Mx)(e:List (Nat×Con)):Hp:=[(0,.row 57 [.val (.bool b)]),(1,.row 112 (C0d x)),(nA,.row 55 [.ptr 0 0]),(nB,.row 121 [.ptr 1 0]),(nC,.row 121 [.ptr 1 0]),(nD,.row 40 (B0e mx0)),(nE,.row 40 (B0e m))]++e
abbrev psK:List Nat:=[0,1,nA,nB,nC,nD,nE]
def psO(i:Int)(x:Mx)(b:Bool)(m:Mx):St:=prS [(10,.val (.int .i64 i))] (psH x b m []) nF
def psI(i j:Int)(x:Mx)(b:Bool)(m:Mx):St:=prS [(8,.ptr nF 0),(10,.val (.int .i64 i)),(13,.val (.int .i64 j))] (psH x b m [(nF,.row 3 [.val (.int .i64 i)])]) nG
def psJ(i:Int)(x:Mx)(b:Bool)(m:Mx):St:=prS [(8,.ptr nF 0),(10,.val (.int .i64 i))] (psH x b m [(nF,.row 3 [.val (.int .i64 i)])]) nG
def psF(x:Mx)(b:Bool)(m:Mx):St:=gSt 26 [(6,.ptr nD 0)] [(0,.row 57 [.val (.bool b)]),(1,.row 112 (C0d x)),(nD,.row 40 (B0e m))] nF
section
variable (o:Ops) (x m:Mx) (b:Bool)
theorem ps0:gRun Tryz.prog {gam:=gamN o} 26 pr0 (B0t 26 [.ptr 0 0,.ptr 1 0,.ptr 1 0] [.row 57 [.val (.bool b)],.row 112 (C0d x)]) [0,1,nA,nB,nC,nD] [3,4,5,6]=some (.normal,gSt 26 [(3,.ptr nA 0),(4,.ptr nB 0),(5,.ptr nC 0),(6,.ptr nD 0)] [(0,.row 57 [.val (.bool b)]),(1,.row 112 (C0d x)),(nA,.row 55 [.ptr 0 0]),(nB,.row 121 [.ptr 1 0]),(nC,.row 121 [.ptr 1 0]),(nD,.row 40 (B0e mx0))] nE):=by kernel_rfl
def psQ(x:Mx)(b:Bool):St:=gSt 26 [(3,.ptr nA 0),(4,.ptr nB 0),(5,.ptr nC 0),(6,.ptr nD 0)] [(0,.row 57 [.val (.bool b)]),(1,.row 112 (C0d x)),(nA,.row 55 [.ptr 0 0]),(nB,.row 121 [.ptr 1 0]),(nC,.row 121 [.ptr 1 0]),(nD,.row 40 (B0e mx0))] nE
theorem ps1:gRun Tryz.prog {gam:=gamN o} 26 pr1 (psQ x b) psK (prT [])=some (.normal,prS [] (psH x b mx0 []) nF):=by kernel_rfl
theorem ps2:gRun Tryz.prog {gam:=gamN o} 26 pr2 (prS [] (psH x b mx0 []) nF) psK (prT [10])=some (.normal,psO 0 x b mx0):=by kernel_rfl
theorem psx:gCut Tryz.prog {gam:=gamN o} 26 prL (psO 6 x b m) nF psK (prT [])=some (.exit 0,prS [] (psH x b m []) nF):=by kernel_rfl
theorem psy:A0p nF (prS [] (psH x b m []) nF)=true:=by kernel_rfl
theorem pse:gRun Tryz.prog {gam:=gamN o} 26 prE (prS [] (psH x b m []) nF) [0,1,nD] [6]=some (.ret,psF x b m):=by kernel_rfl
theorem psr:resA Tryz.prog (psF x b m) Tryz.f58.results.toList=some [.val (Cod.enc (M6.of m))]:=by kernel_rfl
def psU(i:Int)(v:Bool)(x:Mx)(b:Bool)(m:Mx):St:=prS [(10,.val (.int .i64 i)),(11,.val (.bool v))] (psH x b m []) nF
variable (i j:Int) (v:Bool)
theorem psa:gRun Tryz.prog {gam:=gamN o} 26 pr3 (psO i x b m) psK (prT [10,11])=some (.normal,psU i (decide (i<6)) x b m):=by kernel_rfl
theorem psA:gRun Tryz.prog {gam:=gamN o} 26 pr3b (psU i v x b m) psK (prT [10])=bif v then some (.normal,psO i x b m) else some (.exit 0,psO i x b m):=by kernel_rfl
theorem psb:gRun Tryz.prog {gam:=gamN o} 26 pr4 (psO i x b m) (psK++[nF]) (prT [8,10])=some (.normal,psJ i x b m):=by kernel_rfl
theorem psB:gRun Tryz.prog {gam:=gamN o} 26 pr5 (psJ i x b m) (psK++[nF]) (prT [8,10,13])=some (.normal,psI i 0 x b m):=by kernel_rfl
def psM(i:Nat):Prop:=∀j,j<6→gCut Tryz.prog {gam:=gamN o} 26 prM (psI (i:Nat) (j:Nat) x b m) nG (psK++[nF]) (prT [8,10,13])=some (.normal,psI (i:Nat) (j+1:Nat) x (G0x o x x i j (m,b)).2 (G0x o x x i j (m,b)).1)
theorem psm0:psM o x m b 0:=D0w (by kernel_rfl) (by kernel_rfl) (by kernel_rfl) (by kernel_rfl) (by kernel_rfl) (by kernel_rfl)
theorem psm1:psM o x m b 1:=D0w (by kernel_rfl) (by kernel_rfl) (by kernel_rfl) (by kernel_rfl) (by kernel_rfl) (by kernel_rfl)
theorem psm2:psM o x m b 2:=D0w (by kernel_rfl) (by kernel_rfl) (by kernel_rfl) (by kernel_rfl) (by kernel_rfl) (by kernel_rfl)
theorem psm3:psM o x m b 3:=D0w (by kernel_rfl) (by kernel_rfl) (by kernel_rfl) (by kernel_rfl) (by kernel_rfl) (by kernel_rfl)
theorem psm4:psM o x m b 4:=D0w (by kernel_rfl) (by kernel_rfl) (by kernel_rfl) (by kernel_rfl) (by kernel_rfl) (by kernel_rfl)
theorem psm5:psM o x m b 5:=D0w (by kernel_rfl) (by kernel_rfl) (by kernel_rfl) (by kernel_rfl) (by kernel_rfl) (by kernel_rfl)
theorem psm:∀i,i<6→psM o x m b i:=D0w (psm0 o x m b) (psm1 o x m b) (psm2 o x m b) (psm3 o x m b) (psm4 o x m b) (psm5 o x m b)
theorem psn:gCut Tryz.prog {gam:=gamN o} 26 prM (psI i 6 x b m) nG (psK++[nF]) (prT [8,10])=some (.exit 2,psJ i x b m):=by kernel_rfl
theorem psc:gRun Tryz.prog {gam:=gamN o} 26 pr10 (psJ i x b m) psK (prT [10])=some (.normal,{psO (IntKind.i64.wrap (i+1)) x b m with lo:=nG}):=by kernel_rfl
theorem psl:(psI i j x b m).lo=nG:=rfl
theorem psq:(psO i x b m).lo=nF:=rfl
theorem pso:A0p nG (psI i j x b m)=true:=by kernel_rfl
theorem psp:A0p nG (psJ i x b m)=true:=by kernel_rfl
theorem psW:A0p nF ({psO i x b m with lo:=nG}:St)=true:=by kernel_rfl
end
section
variable {o:Ops} (hG:GamOk Tryz.prog ({gam:=gamN o}:Env).gam) (x m:Mx) (b:Bool)
include hG
omit b m in
theorem psZ(z:Mx×Bool){i j:Nat}(hi:i<6)(hj:j<6):A0b Tryz.prog 26 prM (psI (i:Nat) (j:Nat) x z.2 z.1) .normal (psI (i:Nat) (j+1:Nat) x (G0x o x x i j z).2 (G0x o x x i j z).1):=by
 obtain ⟨m,b⟩:=z
 exact A0c hG (psm o x m b i hi j hj) (psl ..) (pso ..) rfl
omit b m in
theorem psN(z:Mx×Bool){i:Nat}(hi:i<6):A0b Tryz.prog 26 (.block 2 (.loop prM)) (psI (i:Nat) 0 x z.2 z.1) .normal (psJ (i:Nat) x (D0r o x x i z).2 (D0r o x x i z).1):=by
 have hE:∀z:Mx×Bool,A0b Tryz.prog 26 prM (psI (i:Nat) (6:Nat) x z.2 z.1) (.exit 2) (psJ (i:Nat) x z.2 z.1):=fun z=>A0c hG (psn o x z.1 z.2 i) (psl ..) (psp ..) rfl
 have hZ:∀(j:Nat) (z:Mx×Bool),j<6→A0b Tryz.prog 26 prM (psI (i:Nat) (j:Nat) x z.2 z.1) .normal (psI (i:Nat) (j+1:Nat) x (G0x o x x i j z).2 (G0x o x x i j z).1):=fun j z hj=>psZ hG x z hi hj
 have hI:D0r o x x i z=A0k (G0x o x x i) 0 6 z:=rfl
 generalize G0x o x x i=F at hZ hI
 have h:=A0b.rounds (P:=Tryz.prog) (N:=26) (c:=prM) (id:=2) 6 (fun j z=>psI (i:Nat) (j:Nat) x z.2 z.1) (fun z=>psJ (i:Nat) x z.2 z.1) F hZ hE z
 rw[hI]
 generalize A0k F 0 6 z=u at h ⊢
 exact h
omit b m in
theorem psR(z:Mx×Bool){i:Nat}(hi:i<6):A0b Tryz.prog 26 prL (psO (i:Nat) x z.2 z.1) .normal (psO (i+1:Nat) x (D0r o x x i z).2 (D0r o x x i z).1):=by
 rw[C3u]
 have h:=(A0a hG (psb o x z.1 z.2 i)).seq ((A0a hG (psB o x z.1 z.2 i)).seq (psN hG x z hi))
 have ha:=psa o x z.1 z.2 i
 rw[decide_eq_true (by omega)]at ha
 generalize D0r o x x i z=u at h ⊢
 have hc:=psc o x u.1 u.2 i
 rw[show IntKind.i64.wrap ((i:Int)+1)=((i+1:Nat):Int) by rw[C0k];omega]at hc
 exact ((A0a hG ha).seq ((A0a hG (psA o x z.1 z.2 i true)).seq ((h.block (.inl rfl)).seq (A0a hG hc)))).freed (psq ..) (psW ..) rfl
theorem psL:A0b Tryz.prog 26 (.block 0 (.loop prL)) (psO 0 x b m) .normal (prS [] (psH x (A0k (D0r o x x) 0 6 (m,b)).2 (A0k (D0r o x x) 0 6 (m,b)).1 []) nF):=by
 have hE:∀z:Mx×Bool,A0b Tryz.prog 26 prL (psO (6:Nat) x z.2 z.1) (.exit 0) (prS [] (psH x z.2 z.1 []) nF):=fun z=>A0c hG (psx o x z.1 z.2) (psq ..) (psy ..) rfl
 have hR:∀(i:Nat) (z:Mx×Bool),i<6→A0b Tryz.prog 26 prL (psO (i:Nat) x z.2 z.1) .normal (psO (i+1:Nat) x (D0r o x x i z).2 (D0r o x x i z).1):=fun _ z hi=>psR hG x z hi
 generalize D0r o x x=F at hR ⊢
 have h:=A0b.rounds (P:=Tryz.prog) (N:=26) (c:=prL) (id:=0) 6 (fun i z=>psO (i:Nat) x z.2 z.1) (fun z=>prS [] (psH x z.2 z.1 []) nF) F hR hE (m,b)
 generalize A0k F 0 6 (m,b)=u at h ⊢
 exact h
omit m in
theorem P3n:A0b Tryz.prog 26 prC (B0t 26 [.ptr 0 0,.ptr 1 0,.ptr 1 0] [.row 57 [.val (.bool b)],.row 112 (C0d x)]) .ret (psF x (Q1g o b x x).2 (Q1g o b x x).1):=by
 have hc:prC=.seq pr0 (.seq pr1 (.seq (.seq pr2 (.block 0 (.loop prL))) prE)):=by
  unfold prC
  rw[P2m]
  rfl
 rw[hc]
 have hL:=psL hG x mx0 b
 unfold Q1g
 generalize A0k (D0r o x x) 0 6 (mx0,b)=z at hL ⊢
 exact (A0a hG (ps0 o x b)).seq ((A0a hG (ps1 o x b)).seq (((A0a hG (ps2 o x b)).seq hL).seq (A0a hG (pse o x z.1 z.2))))
end
end Go.Ab
