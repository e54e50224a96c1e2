/- A part of the proof of 'CraftHolds': lemmas, no statement of their own; no condition. -/
import Derived.Test.YtoocjipllmkjcaaGreatFjB0
import Derived.Test.YtoocjipllmkjcaaGreatGBeA
import Derived.Test.YtoocjipllmkjcaaGreatGFuC0
namespace Go.Ab
open Go Go.Proofs
def pdH(x y:Mx)(b:Bool)(m:Mx)(e:List (Nat×Con)):Hp:=[(0,.row 57 [.val (.bool b)]),(1,.row 112 (C0d x)),(2,.row 112 (C0d y)),(nA,.row 55 [.ptr 0 0]),(nB,.row 121 [.ptr 1 0]),(nC,.row 121 [.ptr 2 0]),(nD,.row 40 (B0e mx0)),(nE,.row 40 (B0e m))]++e
abbrev pdK:List Nat:=[0,1,2,nA,nB,nC,nD,nE]
def pdO(i:Int)(x y:Mx)(b:Bool)(m:Mx):St:=prS [(10,.val (.int .i64 i))] (pdH x y b m []) nF
def pdI(i j:Int)(x y:Mx)(b:Bool)(m:Mx):St:=prS [(8,.ptr nF 0),(10,.val (.int .i64 i)),(13,.val (.int .i64 j))] (pdH x y b m [(nF,.row 3 [.val (.int .i64 i)])]) nG
def pdJ(i:Int)(x y:Mx)(b:Bool)(m:Mx):St:=prS [(8,.ptr nF 0),(10,.val (.int .i64 i))] (pdH x y b m [(nF,.row 3 [.val (.int .i64 i)])]) nG
def pdF(x y:Mx)(b:Bool)(m:Mx):St:=gSt 26 [(6,.ptr nD 0)] [(0,.row 57 [.val (.bool b)]),(1,.row 112 (C0d x)),(2,.row 112 (C0d y)),(nD,.row 40 (B0e m))] nF
section
variable (o:Ops) (x y m:Mx) (b:Bool)
theorem pd0:gRun Tryz.prog {gam:=gamN o} 26 pr0 (B0t 26 [.ptr 0 0,.ptr 1 0,.ptr 2 0] [.row 57 [.val (.bool b)],.row 112 (C0d x),.row 112 (C0d y)]) [0,1,2,nA,nB,nC,nD] [3,4,5,6]=some (.normal,gSt 26 [(3,.ptr nA 0),(4,.ptr nB 0),(5,.ptr nC 0),(6,.ptr nD 0)] [(0,.row 57 [.val (.bool b)]),(1,.row 112 (C0d x)),(2,.row 112 (C0d y)),(nA,.row 55 [.ptr 0 0]),(nB,.row 121 [.ptr 1 0]),(nC,.row 121 [.ptr 2 0]),(nD,.row 40 (B0e mx0))] nE):=by kernel_rfl
def pdQ(x y:Mx)(b:Bool):St:=gSt 26 [(3,.ptr nA 0),(4,.ptr nB 0),(5,.ptr nC 0),(6,.ptr nD 0)] [(0,.row 57 [.val (.bool b)]),(1,.row 112 (C0d x)),(2,.row 112 (C0d y)),(nA,.row 55 [.ptr 0 0]),(nB,.row 121 [.ptr 1 0]),(nC,.row 121 [.ptr 2 0]),(nD,.row 40 (B0e mx0))] nE
theorem pd1:gRun Tryz.prog {gam:=gamN o} 26 pr1 (pdQ x y b) pdK (prT [])=some (.normal,prS [] (pdH x y b mx0 []) nF):=by kernel_rfl
theorem pd2:gRun Tryz.prog {gam:=gamN o} 26 pr2 (prS [] (pdH x y b mx0 []) nF) pdK (prT [10])=some (.normal,pdO 0 x y b mx0):=by kernel_rfl
theorem pdx:gCut Tryz.prog {gam:=gamN o} 26 prL (pdO 6 x y b m) nF pdK (prT [])=some (.exit 0,prS [] (pdH x y b m []) nF):=by kernel_rfl
theorem pdy:A0p nF (prS [] (pdH x y b m []) nF)=true:=by kernel_rfl
theorem pde:gRun Tryz.prog {gam:=gamN o} 26 prE (prS [] (pdH x y b m []) nF) [0,1,2,nD] [6]=some (.ret,pdF x y b m):=by kernel_rfl
theorem pdr:resA Tryz.prog (pdF x y b m) Tryz.f58.results.toList=some [.val (Cod.enc (M6.of m))]:=by kernel_rfl
def pdU(i:Int)(v:Bool)(x y:Mx)(b:Bool)(m:Mx):St:=prS [(10,.val (.int .i64 i)),(11,.val (.bool v))] (pdH x y b m []) nF
variable (i j:Int) (v:Bool)
theorem pda:gRun Tryz.prog {gam:=gamN o} 26 pr3 (pdO i x y b m) pdK (prT [10,11])=some (.normal,pdU i (decide (i<6)) x y b m):=by kernel_rfl
theorem pdA:gRun Tryz.prog {gam:=gamN o} 26 pr3b (pdU i v x y b m) pdK (prT [10])=bif v then some (.normal,pdO i x y b m) else some (.exit 0,pdO i x y b m):=by kernel_rfl
theorem pdb:gRun Tryz.prog {gam:=gamN o} 26 pr4 (pdO i x y b m) (pdK++[nF]) (prT [8,10])=some (.normal,pdJ i x y b m):=by kernel_rfl
theorem pdB:gRun Tryz.prog {gam:=gamN o} 26 pr5 (pdJ i x y b m) (pdK++[nF]) (prT [8,10,13])=some (.normal,pdI i 0 x y b m):=by kernel_rfl
def pdM(i:Nat):Prop:=∀j,j<6→gCut Tryz.prog {gam:=gamN o} 26 prM (pdI (i:Nat) (j:Nat) x y b m) nG (pdK++[nF]) (prT [8,10,13])=some (.normal,pdI (i:Nat) (j+1:Nat) x y (G0x o x y i j (m,b)).2 (G0x o x y i j (m,b)).1)
theorem pdm0:pdM o x y m b 0:=D0w (by kernel_rfl) (by kernel_rfl) (by kernel_rfl) (by kernel_rfl) (by kernel_rfl) (by kernel_rfl)
theorem pdm1:pdM o x y m b 1:=D0w (by kernel_rfl) (by kernel_rfl) (by kernel_rfl) (by kernel_rfl) (by kernel_rfl) (by kernel_rfl)
theorem pdm2:pdM o x y m b 2:=D0w (by kernel_rfl) (by kernel_rfl) (by kernel_rfl) (by kernel_rfl) (by kernel_rfl) (by kernel_rfl)
theorem pdm3:pdM o x y m b 3:=D0w (by kernel_rfl) (by kernel_rfl) (by kernel_rfl) (by kernel_rfl) (by kernel_rfl) (by kernel_rfl)
theorem pdm4:pdM o x y m b 4:=D0w (by kernel_rfl) (by kernel_rfl) (by kernel_rfl) (by kernel_rfl) (by kernel_rfl) (by kernel_rfl)
theorem pdm5:pdM o x y m b 5:=D0w (by kernel_rfl) (by kernel_rfl) (by kernel_rfl) (by kernel_rfl) (by kernel_rfl) (by kernel_rfl)
theorem pdm:∀i,i<6→pdM o x y m b i:=D0w (pdm0 o x y m b) (pdm1 o x y m b) (pdm2 o x y m b) (pdm3 o x y m b) (pdm4 o x y m b) (pdm5 o x y m b)
theorem pdn:gCut Tryz.prog {gam:=gamN o} 26 prM (pdI i 6 x y b m) nG (pdK++[nF]) (prT [8,10])=some (.exit 2,pdJ i x y b m):=by kernel_rfl
theorem pdc:gRun Tryz.prog {gam:=gamN o} 26 pr10 (pdJ i x y b m) pdK (prT [10])=some (.normal,{pdO (IntKind.i64.wrap (i+1)) x y b m with lo:=nG}):=by kernel_rfl
theorem pdl:(pdI i j x y b m).lo=nG:=rfl
theorem pdq:(pdO i x y b m).lo=nF:=rfl
theorem pdo:A0p nG (pdI i j x y b m)=true:=by kernel_rfl
theorem pdp:A0p nG (pdJ i x y b m)=true:=by kernel_rfl
theorem pdW:A0p nF ({pdO i x y b m with lo:=nG}:St)=true:=by kernel_rfl
end
section
variable {o:Ops} (hG:GamOk Tryz.prog ({gam:=gamN o}:Env).gam) (x y m:Mx) (b:Bool)
include hG
omit b m in
theorem pdZ(z:Mx×Bool){i j:Nat}(hi:i<6)(hj:j<6):A0b Tryz.prog 26 prM (pdI (i:Nat) (j:Nat) x y z.2 z.1) .normal (pdI (i:Nat) (j+1:Nat) x y (G0x o x y i j z).2 (G0x o x y i j z).1):=by
 obtain ⟨m,b⟩:=z
 exact A0c hG (pdm o x y m b i hi j hj) (pdl ..) (pdo ..) rfl
omit b m in
theorem pdN(z:Mx×Bool){i:Nat}(hi:i<6):A0b Tryz.prog 26 (.block 2 (.loop prM)) (pdI (i:Nat) 0 x y z.2 z.1) .normal (pdJ (i:Nat) x y (D0r o x y i z).2 (D0r o x y i z).1):=by
 have hE:∀z:Mx×Bool,A0b Tryz.prog 26 prM (pdI (i:Nat) (6:Nat) x y z.2 z.1) (.exit 2) (pdJ (i:Nat) x y z.2 z.1):=fun z=>A0c hG (pdn o x y z.1 z.2 i) (pdl ..) (pdp ..) rfl
 have hZ:∀(j:Nat) (z:Mx×Bool),j<6→A0b Tryz.prog 26 prM (pdI (i:Nat) (j:Nat) x y z.2 z.1) .normal (pdI (i:Nat) (j+1:Nat) x y (G0x o x y i j z).2 (G0x o x y i j z).1):=fun j z hj=>pdZ hG x y z hi hj
 have hI:D0r o x y i z=A0k (G0x o x y i) 0 6 z:=rfl
 generalize G0x o x y i=F at hZ hI
 have h:=A0b.rounds (P:=Tryz.prog) (N:=26) (c:=prM) (id:=2) 6 (fun j z=>pdI (i:Nat) (j:Nat) x y z.2 z.1) (fun z=>pdJ (i:Nat) x y z.2 z.1) F hZ hE z
 rw[hI]
 generalize A0k F 0 6 z=u at h ⊢
 exact h
omit b m in
theorem pdR(z:Mx×Bool){i:Nat}(hi:i<6):A0b Tryz.prog 26 prL (pdO (i:Nat) x y z.2 z.1) .normal (pdO (i+1:Nat) x y (D0r o x y i z).2 (D0r o x y i z).1):=by
 rw[C3u]
 have h:=(A0a hG (pdb o x y z.1 z.2 i)).seq ((A0a hG (pdB o x y z.1 z.2 i)).seq (pdN hG x y z hi))
 have ha:=pda o x y z.1 z.2 i
 rw[decide_eq_true (by omega)]at ha
 generalize D0r o x y i z=u at h ⊢
 have hc:=pdc o x y u.1 u.2 i
 rw[show IntKind.i64.wrap ((i:Int)+1)=((i+1:Nat):Int) by rw[C0k];omega]at hc
 exact ((A0a hG ha).seq ((A0a hG (pdA o x y z.1 z.2 i true)).seq ((h.block (.inl rfl)).seq (A0a hG hc)))).freed (pdq ..) (pdW ..) rfl
theorem pdL:A0b Tryz.prog 26 (.block 0 (.loop prL)) (pdO 0 x y b m) .normal (prS [] (pdH x y (A0k (D0r o x y) 0 6 (m,b)).2 (A0k (D0r o x y) 0 6 (m,b)).1 []) nF):=by
 have hE:∀z:Mx×Bool,A0b Tryz.prog 26 prL (pdO (6:Nat) x y z.2 z.1) (.exit 0) (prS [] (pdH x y z.2 z.1 []) nF):=fun z=>A0c hG (pdx o x y z.1 z.2) (pdq ..) (pdy ..) rfl
 have hR:∀(i:Nat) (z:Mx×Bool),i<6→A0b Tryz.prog 26 prL (pdO (i:Nat) x y z.2 z.1) .normal (pdO (i+1:Nat) x y (D0r o x y i z).2 (D0r o x y i z).1):=fun _ z hi=>pdR hG x y z hi
 generalize D0r o x y=F at hR ⊢
 have h:=A0b.rounds (P:=Tryz.prog) (N:=26) (c:=prL) (id:=0) 6 (fun i z=>pdO (i:Nat) x y z.2 z.1) (fun z=>prS [] (pdH x y z.2 z.1 []) nF) F hR hE (m,b)
 generalize A0k F 0 6 (m,b)=u at h ⊢
 exact h
omit m in
theorem P3m:A0b Tryz.prog 26 prC (B0t 26 [.ptr 0 0,.ptr 1 0,.ptr 2 0] [.row 57 [.val (.bool b)],.row 112 (C0d x),.row 112 (C0d y)]) .ret (pdF x y (Q1g o b x y).2 (Q1g o b x y).1):=by
 have hc:prC=.seq pr0 (.seq pr1 (.seq (.seq pr2 (.block 0 (.loop prL))) prE)):=by
  unfold prC
  rw[P2m]
  rfl
 rw[hc]
 have hL:=pdL hG x y mx0 b
 unfold Q1g
 generalize A0k (D0r o x y) 0 6 (mx0,b)=z at hL ⊢
 exact (A0a hG (pd0 o x y b)).seq ((A0a hG (pd1 o x y b)).seq (((A0a hG (pd2 o x y b)).seq hL).seq (A0a hG (pde o x y z.1 z.2))))
end
end Go.Ab
