/- A part of the proofs: lemmas, no statement of their own; no condition. -/
import Derived.Test.YtoocjipllmkjcaaGreatGAbU
import Derived.Test.YtoocjipllmkjcaaGreatGFuB
import Derived.Test.YtoocjipllmkjcaaGreatGOrA
namespace Go.Ab
open Go Go.Proofs
def addN (o : Ops) (v : Nat→Int) : Nat→Nat→Int × Bool→Int × Bool
  | _,0,s=>s
  | k,n + 1,s=>addN o v (k + 1) n (o.add s.2 s.1 (v k))
def meanO (o : Ops) (b : Bool) (v : Nat→Int) : Int × Bool :=
  let s:=addN o v 1 12 (o.add b (v 0) (v 0))
  o.part s.2 s.1 1 14
def cells13 (x : Mx) : List AV:=(nums 0 78).map fun j=>.val (.int .i64 (x (j / 6) (j % 6)))
def subRow (o : Ops) (m : Nat→Int) (k : Nat) : Nat→Nat→Mx × Bool→Mx × Bool
  | _,0,s=>s
  | i,n + 1,s=>subRow o m k (i + 1) n (setM s.1 k i (o.sub s.2 (s.1 k i) (m i)).1,(o.sub s.2 (s.1 k i) (m i)).2)
noncomputable def ctC : Code:=Tryz.f57.body.getD .skip
noncomputable def ct0 : Code:=seqL ctC
noncomputable def ct1 : Code:=seqL (seqR ctC)
noncomputable def ctA : Code:=seqL (seqR (seqR ctC))
noncomputable def ct2 : Code:=seqL ctA
noncomputable def ctL : Code:=inB (inB (seqR ctA))
noncomputable def ctB : Code:=seqL (seqR (seqR (seqR ctC)))
noncomputable def ct7 : Code:=seqL ctB
noncomputable def ctM : Code:=inB (inB (seqR ctB))
noncomputable def ctE : Code:=seqR (seqR (seqR (seqR ctC)))
theorem ctC_is : Tryz.f57.body = some (.seq ct0 (.seq ct1 (.seq (.seq ct2 (.block 0 (.loop ctL))) (.seq (.seq ct7 (.block 2 (.loop ctM))) ctE)))):=by kernel_rfl
theorem ctN : Tryz.f57.ntmps = 45:=by kernel_rfl
abbrev nA : Nat:=4096
abbrev nB : Nat:=4096 + 2 ^ 180
abbrev nC : Nat:=4096 + 2 * 2 ^ 180
abbrev nD : Nat:=4096 + 3 * 2 ^ 180
def ctH (x : Mx) (m : Nat→Int) (b : Bool) : Hp:=[(0,.row 112 (cells13 x)),(1,.row 57 [.val (.bool b)]),(nA,.row 121 [.ptr 0 0]),(nB,.row 38 (ints 6 fun _=>0)),(nC,.row 38 (ints 6 m))]
def ctS (t : Nat) (i : Int) (x : Mx) (m : Nat→Int) (b : Bool) : St:=gSt 45 [(1,.ptr 1 0),(2,.ptr nA 0),(4,.ptr nB 0),(5,.ptr nC 0),(t,.val (.int .i64 i))] (ctH x m b) nD
abbrev ctK : List Nat:=[0,1,nA,nB,nC]
abbrev ctT (t : Nat) : List Nat:=[1,2,4,5,t]
section
variable (o : Ops) (x : Mx) (m : Nat→Int) (b : Bool)
def ctS0 (x : Mx) (b : Bool) : St:=gSt 45 [(1,.ptr 1 0),(2,.ptr nA 0),(4,.ptr nB 0)] [(0,.row 112 (cells13 x)),(1,.row 57 [.val (.bool b)]),(nA,.row 121 [.ptr 0 0]),(nB,.row 38 (ints 6 fun _=>0))] nC
def ctS1 (x : Mx) (b : Bool) : St:=gSt 45 [(1,.ptr 1 0),(2,.ptr nA 0),(4,.ptr nB 0),(5,.ptr nC 0)] (ctH x (fun _=>0) b) nD
theorem cq0 : gRun Tryz.prog { gam:=gamN o } 45 ct0 (startS 45 [.ptr 0 0,.ptr 1 0] [.row 112 (cells13 x),.row 57 [.val (.bool b)]]) [0,1,nA,nB] [1,2,4] = some (.normal,ctS0 x b):=by kernel_rfl
theorem cq1 : gRun Tryz.prog { gam:=gamN o } 45 ct1 (ctS0 x b) ctK [1,2,4,5] = some (.normal,ctS1 x b):=by kernel_rfl
theorem cq2 : gRun Tryz.prog { gam:=gamN o } 45 ct2 (ctS1 x b) ctK (ctT 9) = some (.normal,ctS 9 0 x (fun _=>0) b):=by kernel_rfl
theorem cqA_0 : gCut Tryz.prog { gam:=gamN o } 45 ctL (ctS 9 0 x m b) nD ctK (ctT 9) = some (.normal,ctS 9 1 x (setR m 0 (meanO o b fun k=>x k 0).1) (meanO o b fun k=>x k 0).2):=by kernel_rfl
theorem cqA_1 : gCut Tryz.prog { gam:=gamN o } 45 ctL (ctS 9 1 x m b) nD ctK (ctT 9) = some (.normal,ctS 9 2 x (setR m 1 (meanO o b fun k=>x k 1).1) (meanO o b fun k=>x k 1).2):=by kernel_rfl
theorem cqA_2 : gCut Tryz.prog { gam:=gamN o } 45 ctL (ctS 9 2 x m b) nD ctK (ctT 9) = some (.normal,ctS 9 3 x (setR m 2 (meanO o b fun k=>x k 2).1) (meanO o b fun k=>x k 2).2):=by kernel_rfl
theorem cqA_3 : gCut Tryz.prog { gam:=gamN o } 45 ctL (ctS 9 3 x m b) nD ctK (ctT 9) = some (.normal,ctS 9 4 x (setR m 3 (meanO o b fun k=>x k 3).1) (meanO o b fun k=>x k 3).2):=by kernel_rfl
theorem cqA_4 : gCut Tryz.prog { gam:=gamN o } 45 ctL (ctS 9 4 x m b) nD ctK (ctT 9) = some (.normal,ctS 9 5 x (setR m 4 (meanO o b fun k=>x k 4).1) (meanO o b fun k=>x k 4).2):=by kernel_rfl
theorem cqA_5 : gCut Tryz.prog { gam:=gamN o } 45 ctL (ctS 9 5 x m b) nD ctK (ctT 9) = some (.normal,ctS 9 6 x (setR m 5 (meanO o b fun k=>x k 5).1) (meanO o b fun k=>x k 5).2):=by kernel_rfl
theorem cqA_6 : gCut Tryz.prog { gam:=gamN o } 45 ctL (ctS 9 6 x m b) nD ctK (ctT 9) = some (.exit 0,ctS 9 6 x m b):=by kernel_rfl
theorem cq7 : gCut Tryz.prog { gam:=gamN o } 45 ct7 (ctS 9 6 x m b) nD ctK (ctT 18) = some (.normal,ctS 18 0 x m b):=by kernel_rfl
theorem cqM_0 : gCut Tryz.prog { gam:=gamN o } 45 ctM (ctS 18 0 x m b) nD ctK (ctT 18) = some (.normal,ctS 18 1 (subRow o m 0 0 6 (x,b)).1 m (subRow o m 0 0 6 (x,b)).2):=by kernel_rfl
theorem cqM_1 : gCut Tryz.prog { gam:=gamN o } 45 ctM (ctS 18 1 x m b) nD ctK (ctT 18) = some (.normal,ctS 18 2 (subRow o m 1 0 6 (x,b)).1 m (subRow o m 1 0 6 (x,b)).2):=by kernel_rfl
theorem cqM_2 : gCut Tryz.prog { gam:=gamN o } 45 ctM (ctS 18 2 x m b) nD ctK (ctT 18) = some (.normal,ctS 18 3 (subRow o m 2 0 6 (x,b)).1 m (subRow o m 2 0 6 (x,b)).2):=by kernel_rfl
theorem cqM_3 : gCut Tryz.prog { gam:=gamN o } 45 ctM (ctS 18 3 x m b) nD ctK (ctT 18) = some (.normal,ctS 18 4 (subRow o m 3 0 6 (x,b)).1 m (subRow o m 3 0 6 (x,b)).2):=by kernel_rfl
theorem cqM_4 : gCut Tryz.prog { gam:=gamN o } 45 ctM (ctS 18 4 x m b) nD ctK (ctT 18) = some (.normal,ctS 18 5 (subRow o m 4 0 6 (x,b)).1 m (subRow o m 4 0 6 (x,b)).2):=by kernel_rfl
theorem cqM_5 : gCut Tryz.prog { gam:=gamN o } 45 ctM (ctS 18 5 x m b) nD ctK (ctT 18) = some (.normal,ctS 18 6 (subRow o m 5 0 6 (x,b)).1 m (subRow o m 5 0 6 (x,b)).2):=by kernel_rfl
theorem cqM_6 : gCut Tryz.prog { gam:=gamN o } 45 ctM (ctS 18 6 x m b) nD ctK (ctT 18) = some (.normal,ctS 18 7 (subRow o m 6 0 6 (x,b)).1 m (subRow o m 6 0 6 (x,b)).2):=by kernel_rfl
theorem cqM_7 : gCut Tryz.prog { gam:=gamN o } 45 ctM (ctS 18 7 x m b) nD ctK (ctT 18) = some (.normal,ctS 18 8 (subRow o m 7 0 6 (x,b)).1 m (subRow o m 7 0 6 (x,b)).2):=by kernel_rfl
theorem cqM_8 : gCut Tryz.prog { gam:=gamN o } 45 ctM (ctS 18 8 x m b) nD ctK (ctT 18) = some (.normal,ctS 18 9 (subRow o m 8 0 6 (x,b)).1 m (subRow o m 8 0 6 (x,b)).2):=by kernel_rfl
theorem cqM_9 : gCut Tryz.prog { gam:=gamN o } 45 ctM (ctS 18 9 x m b) nD ctK (ctT 18) = some (.normal,ctS 18 10 (subRow o m 9 0 6 (x,b)).1 m (subRow o m 9 0 6 (x,b)).2):=by kernel_rfl
theorem cqM_10 : gCut Tryz.prog { gam:=gamN o } 45 ctM (ctS 18 10 x m b) nD ctK (ctT 18) = some (.normal,ctS 18 11 (subRow o m 10 0 6 (x,b)).1 m (subRow o m 10 0 6 (x,b)).2):=by kernel_rfl
theorem cqM_11 : gCut Tryz.prog { gam:=gamN o } 45 ctM (ctS 18 11 x m b) nD ctK (ctT 18) = some (.normal,ctS 18 12 (subRow o m 11 0 6 (x,b)).1 m (subRow o m 11 0 6 (x,b)).2):=by kernel_rfl
theorem cqM_12 : gCut Tryz.prog { gam:=gamN o } 45 ctM (ctS 18 12 x m b) nD ctK (ctT 18) = some (.normal,ctS 18 13 (subRow o m 12 0 6 (x,b)).1 m (subRow o m 12 0 6 (x,b)).2):=by kernel_rfl
theorem cqM_13 : gCut Tryz.prog { gam:=gamN o } 45 ctM (ctS 18 13 x m b) nD ctK (ctT 18) = some (.exit 2,ctS 18 13 x m b):=by kernel_rfl
def ctF (x : Mx) (m : Nat→Int) (b : Bool) : St:=gSt 45 [(4,.ptr nB 0)] [(0,.row 112 (cells13 x)),(1,.row 57 [.val (.bool b)]),(nB,.row 38 (ints 6 m))] nD
theorem cqE : gRun Tryz.prog { gam:=gamN o } 45 ctE (ctS 18 13 x m b) [0,1,nB] [4] = some (.ret,ctF x m b):=by kernel_rfl
theorem cqR : resA Tryz.prog (ctF x m b) Tryz.f57.results.toList = some [.val (Cod.enc (R6.of m))]:=by kernel_rfl
theorem cqc9 (i : Int) : okClean nD (ctS 9 i x m b) = true:=by kernel_rfl
theorem cqc18 (i : Int) : okClean nD (ctS 18 i x m b) = true:=by kernel_rfl
end
def ctPA (o : Ops) (x : Mx) (i : Nat) (z : (Nat→Int) × Bool) : (Nat→Int) × Bool:=(setR z.1 i (meanO o z.2 fun k=>x k i).1,(meanO o z.2 fun k=>x k i).2)
def ctPM (o : Ops) (m : Nat→Int) (k : Nat) (z : Mx × Bool) : Mx × Bool:=subRow o m k 0 6 z
def centerO (o : Ops) (b : Bool) (x : Mx) : (Mx × (Nat→Int)) × Bool :=
  let m:=iterF (ctPA o x) 0 6 (fun _=>0,b)
  let y:=iterF (ctPM o m.1) 0 13 (x,m.2)
  ((y.1,m.1),y.2)
theorem ct_lo9 (x : Mx) (m : Nat→Int) (b : Bool) (i : Int) : (ctS 9 i x m b).lo = nD:=rfl
theorem ct_lo18 (x : Mx) (m : Nat→Int) (b : Bool) (i : Int) : (ctS 18 i x m b).lo = nD:=rfl
theorem ct_hi (t t' : Nat) (x x' : Mx) (m m' : Nat→Int) (b b' : Bool) (i i' : Int) : (ctS t i x m b).hi = (ctS t' i' x' m' b').hi:=rfl
section
variable {o : Ops} (hG : GamOk Tryz.prog ({ gam:=gamN o } : Env).gam) (x : Mx) (m : Nat→Int) (b : Bool)
include hG
theorem cuA_0 : RunsTo Tryz.prog 45 ctL (ctS 9 0 x m b) .normal (ctS 9 1 x (setR m 0 (meanO o b fun k=>x k 0).1) (meanO o b fun k=>x k 0).2):=gCut_runs hG (cqA_0 o x m b) (ct_lo9 ..) (cqc9 ..) (ct_hi ..)
theorem cuA_1 : RunsTo Tryz.prog 45 ctL (ctS 9 1 x m b) .normal (ctS 9 2 x (setR m 1 (meanO o b fun k=>x k 1).1) (meanO o b fun k=>x k 1).2):=gCut_runs hG (cqA_1 o x m b) (ct_lo9 ..) (cqc9 ..) (ct_hi ..)
theorem cuA_2 : RunsTo Tryz.prog 45 ctL (ctS 9 2 x m b) .normal (ctS 9 3 x (setR m 2 (meanO o b fun k=>x k 2).1) (meanO o b fun k=>x k 2).2):=gCut_runs hG (cqA_2 o x m b) (ct_lo9 ..) (cqc9 ..) (ct_hi ..)
theorem cuA_3 : RunsTo Tryz.prog 45 ctL (ctS 9 3 x m b) .normal (ctS 9 4 x (setR m 3 (meanO o b fun k=>x k 3).1) (meanO o b fun k=>x k 3).2):=gCut_runs hG (cqA_3 o x m b) (ct_lo9 ..) (cqc9 ..) (ct_hi ..)
theorem cuA_4 : RunsTo Tryz.prog 45 ctL (ctS 9 4 x m b) .normal (ctS 9 5 x (setR m 4 (meanO o b fun k=>x k 4).1) (meanO o b fun k=>x k 4).2):=gCut_runs hG (cqA_4 o x m b) (ct_lo9 ..) (cqc9 ..) (ct_hi ..)
theorem cuA_5 : RunsTo Tryz.prog 45 ctL (ctS 9 5 x m b) .normal (ctS 9 6 x (setR m 5 (meanO o b fun k=>x k 5).1) (meanO o b fun k=>x k 5).2):=gCut_runs hG (cqA_5 o x m b) (ct_lo9 ..) (cqc9 ..) (ct_hi ..)
theorem cuA_6 : RunsTo Tryz.prog 45 ctL (ctS 9 6 x m b) (.exit 0) (ctS 9 6 x m b):=gCut_runs hG (cqA_6 o x m b) (ct_lo9 ..) (cqc9 ..) (ct_hi ..)
theorem cuM_0 : RunsTo Tryz.prog 45 ctM (ctS 18 0 x m b) .normal (ctS 18 1 (subRow o m 0 0 6 (x,b)).1 m (subRow o m 0 0 6 (x,b)).2):=gCut_runs hG (cqM_0 o x m b) (ct_lo18 ..) (cqc18 ..) (ct_hi ..)
theorem cuM_1 : RunsTo Tryz.prog 45 ctM (ctS 18 1 x m b) .normal (ctS 18 2 (subRow o m 1 0 6 (x,b)).1 m (subRow o m 1 0 6 (x,b)).2):=gCut_runs hG (cqM_1 o x m b) (ct_lo18 ..) (cqc18 ..) (ct_hi ..)
theorem cuM_2 : RunsTo Tryz.prog 45 ctM (ctS 18 2 x m b) .normal (ctS 18 3 (subRow o m 2 0 6 (x,b)).1 m (subRow o m 2 0 6 (x,b)).2):=gCut_runs hG (cqM_2 o x m b) (ct_lo18 ..) (cqc18 ..) (ct_hi ..)
theorem cuM_3 : RunsTo Tryz.prog 45 ctM (ctS 18 3 x m b) .normal (ctS 18 4 (subRow o m 3 0 6 (x,b)).1 m (subRow o m 3 0 6 (x,b)).2):=gCut_runs hG (cqM_3 o x m b) (ct_lo18 ..) (cqc18 ..) (ct_hi ..)
theorem cuM_4 : RunsTo Tryz.prog 45 ctM (ctS 18 4 x m b) .normal (ctS 18 5 (subRow o m 4 0 6 (x,b)).1 m (subRow o m 4 0 6 (x,b)).2):=gCut_runs hG (cqM_4 o x m b) (ct_lo18 ..) (cqc18 ..) (ct_hi ..)
theorem cuM_5 : RunsTo Tryz.prog 45 ctM (ctS 18 5 x m b) .normal (ctS 18 6 (subRow o m 5 0 6 (x,b)).1 m (subRow o m 5 0 6 (x,b)).2):=gCut_runs hG (cqM_5 o x m b) (ct_lo18 ..) (cqc18 ..) (ct_hi ..)
theorem cuM_6 : RunsTo Tryz.prog 45 ctM (ctS 18 6 x m b) .normal (ctS 18 7 (subRow o m 6 0 6 (x,b)).1 m (subRow o m 6 0 6 (x,b)).2):=gCut_runs hG (cqM_6 o x m b) (ct_lo18 ..) (cqc18 ..) (ct_hi ..)
theorem cuM_7 : RunsTo Tryz.prog 45 ctM (ctS 18 7 x m b) .normal (ctS 18 8 (subRow o m 7 0 6 (x,b)).1 m (subRow o m 7 0 6 (x,b)).2):=gCut_runs hG (cqM_7 o x m b) (ct_lo18 ..) (cqc18 ..) (ct_hi ..)
theorem cuM_8 : RunsTo Tryz.prog 45 ctM (ctS 18 8 x m b) .normal (ctS 18 9 (subRow o m 8 0 6 (x,b)).1 m (subRow o m 8 0 6 (x,b)).2):=gCut_runs hG (cqM_8 o x m b) (ct_lo18 ..) (cqc18 ..) (ct_hi ..)
theorem cuM_9 : RunsTo Tryz.prog 45 ctM (ctS 18 9 x m b) .normal (ctS 18 10 (subRow o m 9 0 6 (x,b)).1 m (subRow o m 9 0 6 (x,b)).2):=gCut_runs hG (cqM_9 o x m b) (ct_lo18 ..) (cqc18 ..) (ct_hi ..)
theorem cuM_10 : RunsTo Tryz.prog 45 ctM (ctS 18 10 x m b) .normal (ctS 18 11 (subRow o m 10 0 6 (x,b)).1 m (subRow o m 10 0 6 (x,b)).2):=gCut_runs hG (cqM_10 o x m b) (ct_lo18 ..) (cqc18 ..) (ct_hi ..)
theorem cuM_11 : RunsTo Tryz.prog 45 ctM (ctS 18 11 x m b) .normal (ctS 18 12 (subRow o m 11 0 6 (x,b)).1 m (subRow o m 11 0 6 (x,b)).2):=gCut_runs hG (cqM_11 o x m b) (ct_lo18 ..) (cqc18 ..) (ct_hi ..)
theorem cuM_12 : RunsTo Tryz.prog 45 ctM (ctS 18 12 x m b) .normal (ctS 18 13 (subRow o m 12 0 6 (x,b)).1 m (subRow o m 12 0 6 (x,b)).2):=gCut_runs hG (cqM_12 o x m b) (ct_lo18 ..) (cqc18 ..) (ct_hi ..)
theorem cuM_13 : RunsTo Tryz.prog 45 ctM (ctS 18 13 x m b) (.exit 2) (ctS 18 13 x m b):=gCut_runs hG (cqM_13 o x m b) (ct_lo18 ..) (cqc18 ..) (ct_hi ..)
theorem center_A : RunsTo Tryz.prog 45 (.block 0 (.loop ctL)) (ctS 9 0 x m b) .normal (ctS 9 6 x (iterF (ctPA o x) 0 6 (m,b)).1 (iterF (ctPA o x) 0 6 (m,b)).2) :=
  RunsTo.rounds (P:=Tryz.prog) (N:=45) (c:=ctL) (id:=0) 6 (fun i z=>ctS 9 i x z.1 z.2) (fun z=>ctS 9 6 x z.1 z.2) (ctPA o x)
    (fun i z hi=>match i,hi with
      | 0,_=>cuA_0 hG x z.1 z.2
      | 1,_=>cuA_1 hG x z.1 z.2
      | 2,_=>cuA_2 hG x z.1 z.2
      | 3,_=>cuA_3 hG x z.1 z.2
      | 4,_=>cuA_4 hG x z.1 z.2
      | 5,_=>cuA_5 hG x z.1 z.2
      | n + 6,h=>absurd h (by omega))
    (fun z=>cuA_6 hG x z.1 z.2) (m,b)
theorem center_M : RunsTo Tryz.prog 45 (.block 2 (.loop ctM)) (ctS 18 0 x m b) .normal (ctS 18 13 (iterF (ctPM o m) 0 13 (x,b)).1 m (iterF (ctPM o m) 0 13 (x,b)).2) :=
  RunsTo.rounds (P:=Tryz.prog) (N:=45) (c:=ctM) (id:=2) 13 (fun k z=>ctS 18 k z.1 m z.2) (fun z=>ctS 18 13 z.1 m z.2) (ctPM o m)
    (fun k z hk=>match k,hk with
      | 0,_=>cuM_0 hG z.1 m z.2
      | 1,_=>cuM_1 hG z.1 m z.2
      | 2,_=>cuM_2 hG z.1 m z.2
      | 3,_=>cuM_3 hG z.1 m z.2
      | 4,_=>cuM_4 hG z.1 m z.2
      | 5,_=>cuM_5 hG z.1 m z.2
      | 6,_=>cuM_6 hG z.1 m z.2
      | 7,_=>cuM_7 hG z.1 m z.2
      | 8,_=>cuM_8 hG z.1 m z.2
      | 9,_=>cuM_9 hG z.1 m z.2
      | 10,_=>cuM_10 hG z.1 m z.2
      | 11,_=>cuM_11 hG z.1 m z.2
      | 12,_=>cuM_12 hG z.1 m z.2
      | n + 13,h=>absurd h (by omega))
    (fun z=>cuM_13 hG z.1 m z.2) (x,b)
theorem center_runs : RunsTo Tryz.prog 45 ctC (startS 45 [.ptr 0 0,.ptr 1 0] [.row 112 (cells13 x),.row 57 [.val (.bool b)]]) .ret (ctF (centerO o b x).1.1 (centerO o b x).1.2 (centerO o b x).2):=by
  have hc : ctC = .seq ct0 (.seq ct1 (.seq (.seq ct2 (.block 0 (.loop ctL))) (.seq (.seq ct7 (.block 2 (.loop ctM))) ctE))):=by
    unfold ctC
    rw [ctC_is]
    rfl
  rw [hc]
  have hA:=center_A hG x (fun _=>0) b
  generalize hm : iterF (ctPA o x) 0 6 (fun _=>0,b) = m at hA
  have hM:=center_M hG x m.1 m.2
  have hx : centerO o b x = (((iterF (ctPM o m.1) 0 13 (x,m.2)).1,m.1),(iterF (ctPM o m.1) 0 13 (x,m.2)).2):=by unfold centerO; rw [hm]
  rw [hx]
  generalize iterF (ctPM o m.1) 0 13 (x,m.2) = y at hM
  have h2:=gRun_runs hG (cq2 o x b)
  have h7:=gCut_runs hG (cq7 o x m.1 m.2) (ct_lo9 ..) (cqc18 ..) (ct_hi ..)
  have hEnd:=gRun_runs hG (cqE o y.1 m.1 y.2)
  exact (gRun_runs hG (cq0 o x b)).seq ((gRun_runs hG (cq1 o x b)).seq ((h2.seq hA).seq ((h7.seq hM).seq hEnd)))
end
theorem f57_is : Tryz.prog.funcs[57]? = some Tryz.f57:=by kernel_rfl
end Go.Ab
namespace Go.Ab
open Go Go.Proofs
def pmN (o : Ops) (u v : Nat→Int) : Nat→Nat→Int × Bool→Int × Bool
  | _,0,s=>s
  | k,n + 1,s=>pmN o u v (k + 1) n (let p:=o.mul s.2 (u k) (v k); o.add p.2 s.1 p.1)
def pmO (o : Ops) (b : Bool) (u v : Nat→Int) : Int × Bool :=
  let p:=o.mul b (u 0) (v 0)
  let s:=pmN o u v 1 12 (o.add p.2 p.1 p.1)
  o.part s.2 s.1 1 14
noncomputable def prC : Code:=Tryz.f58.body.getD .skip
noncomputable def pr0 : Code:=seqL prC
noncomputable def pr1 : Code:=seqL (seqR prC)
noncomputable def prA : Code:=seqL (seqR (seqR prC))
noncomputable def pr2 : Code:=seqL prA
noncomputable def prL : Code:=inB (inB (seqR prA))
noncomputable def prE : Code:=seqR (seqR (seqR prC))
noncomputable def pr3 : Code:=seqL prL
noncomputable def pr3b : Code:=seqL (seqR prL)
noncomputable def prI : Code:=inB (seqL (seqR (seqR prL)))
noncomputable def pr4 : Code:=seqL prI
noncomputable def pr5 : Code:=seqL (seqR prI)
noncomputable def prM : Code:=inB (inB (seqR (seqR prI)))
noncomputable def pr10 : Code:=seqR (seqR (seqR prL))
theorem prC_is : Tryz.f58.body = some (.seq pr0 (.seq pr1 (.seq (.seq pr2 (.block 0 (.loop prL))) prE))):=by kernel_rfl
theorem prL_is : prL = .seq pr3 (.seq pr3b (.seq (.block 1 (.seq pr4 (.seq pr5 (.block 2 (.loop prM))))) pr10)):=by kernel_rfl
abbrev nE : Nat:=4096 + 4 * 2 ^ 180
abbrev nF : Nat:=4096 + 5 * 2 ^ 180
abbrev nG : Nat:=4096 + 6 * 2 ^ 180
def cells36 (m : Mx) : List AV:=(nums 0 36).map fun j=>.val (.int .i64 (m (j / 6) (j % 6)))
def prFx : List (Nat × AV):=[(3,.ptr nA 0),(4,.ptr nB 0),(5,.ptr nC 0),(6,.ptr nD 0),(7,.ptr nE 0)]
def prS (e : List (Nat × AV)) (H : Hp) (lo : Nat) : St:=gSt 26 (prFx ++ e) H lo
abbrev prT (t : List Nat) : List Nat:=[3,4,5,6,7] ++ t
def prJ_F (o : Ops) (x y : Mx) (i j : Nat) (z : Mx × Bool) : Mx × Bool:=(setM z.1 i j (pmO o z.2 (fun k=>x k i) (fun k=>y k j)).1,(pmO o z.2 (fun k=>x k i) (fun k=>y k j)).2)
def prI_F (o : Ops) (x y : Mx) (i : Nat) (z : Mx × Bool) : Mx × Bool:=iterF (prJ_F o x y i) 0 6 z
def prodO (o : Ops) (b : Bool) (x y : Mx) : Mx × Bool:=iterF (prI_F o x y) 0 6 (mx0,b)
theorem f58_is : Tryz.prog.funcs[58]? = some Tryz.f58:=by kernel_rfl
theorem prN : Tryz.f58.ntmps = 26:=by kernel_rfl
end Go.Ab
namespace Go.Ab
open Go Go.Proofs
def psH (x : Mx) (b : Bool) (m : Mx) (e : List (Nat × Con)) : Hp:=[(0,.row 57 [.val (.bool b)]),(1,.row 112 (cells13 x)),(nA,.row 55 [.ptr 0 0]),(nB,.row 121 [.ptr 1 0]),(nC,.row 121 [.ptr 1 0]),(nD,.row 40 (cells36 mx0)),(nE,.row 40 (cells36 m))] ++ e
abbrev psK : List Nat:=[0,1,nA,nB,nC,nD,nE]
def psO (i : Int) (x : Mx) (b : Bool) (m : Mx) : St:=prS [(10,.val (.int .i64 i))] (psH x b m []) nF
def psI (i j : Int) (x : Mx) (b : Bool) (m : Mx) : St:=prS [(8,.ptr nF 0),(10,.val (.int .i64 i)),(13,.val (.int .i64 j))] (psH x b m [(nF,.row 3 [.val (.int .i64 i)])]) nG
def psJ (i : Int) (x : Mx) (b : Bool) (m : Mx) : St:=prS [(8,.ptr nF 0),(10,.val (.int .i64 i))] (psH x b m [(nF,.row 3 [.val (.int .i64 i)])]) nG
def psF (x : Mx) (b : Bool) (m : Mx) : St:=gSt 26 [(6,.ptr nD 0)] [(0,.row 57 [.val (.bool b)]),(1,.row 112 (cells13 x)),(nD,.row 40 (cells36 m))] nF
section
variable (o : Ops) (x m : Mx) (b : Bool)
theorem ps0 : gRun Tryz.prog { gam:=gamN o } 26 pr0 (startS 26 [.ptr 0 0,.ptr 1 0,.ptr 1 0] [.row 57 [.val (.bool b)],.row 112 (cells13 x)]) [0,1,nA,nB,nC,nD] [3,4,5,6] = some (.normal,gSt 26 [(3,.ptr nA 0),(4,.ptr nB 0),(5,.ptr nC 0),(6,.ptr nD 0)] [(0,.row 57 [.val (.bool b)]),(1,.row 112 (cells13 x)),(nA,.row 55 [.ptr 0 0]),(nB,.row 121 [.ptr 1 0]),(nC,.row 121 [.ptr 1 0]),(nD,.row 40 (cells36 mx0))] nE):=by kernel_rfl
def psQ (x : Mx) (b : Bool) : St:=gSt 26 [(3,.ptr nA 0),(4,.ptr nB 0),(5,.ptr nC 0),(6,.ptr nD 0)] [(0,.row 57 [.val (.bool b)]),(1,.row 112 (cells13 x)),(nA,.row 55 [.ptr 0 0]),(nB,.row 121 [.ptr 1 0]),(nC,.row 121 [.ptr 1 0]),(nD,.row 40 (cells36 mx0))] nE
theorem ps1 : gRun Tryz.prog { gam:=gamN o } 26 pr1 (psQ x b) psK (prT []) = some (.normal,prS [] (psH x b mx0 []) nF):=by kernel_rfl
theorem ps2 : gRun Tryz.prog { gam:=gamN o } 26 pr2 (prS [] (psH x b mx0 []) nF) psK (prT [10]) = some (.normal,psO 0 x b mx0):=by kernel_rfl
def psU_0 (x : Mx) (b : Bool) (m : Mx) : St:=prS [(10,.val (.int .i64 0)),(11,.val (.bool true))] (psH x b m []) nF
theorem psa_0 : gRun Tryz.prog { gam:=gamN o } 26 pr3 (psO 0 x b m) psK (prT [10,11]) = some (.normal,psU_0 x b m):=by kernel_rfl
theorem psA_0 : gRun Tryz.prog { gam:=gamN o } 26 pr3b (psU_0 x b m) psK (prT [10]) = some (.normal,psO 0 x b m):=by kernel_rfl
theorem psb_0 : gRun Tryz.prog { gam:=gamN o } 26 pr4 (psO 0 x b m) (psK ++ [nF]) (prT [8,10]) = some (.normal,psJ 0 x b m):=by kernel_rfl
theorem psB_0 : gRun Tryz.prog { gam:=gamN o } 26 pr5 (psJ 0 x b m) (psK ++ [nF]) (prT [8,10,13]) = some (.normal,psI 0 0 x b m):=by kernel_rfl
theorem psm_0_0 : gCut Tryz.prog { gam:=gamN o } 26 prM (psI 0 0 x b m) nG (psK ++ [nF]) (prT [8,10,13]) = some (.normal,psI 0 1 x (pmO o b (fun k=>x k 0) (fun k=>x k 0)).2 (setM m 0 0 (pmO o b (fun k=>x k 0) (fun k=>x k 0)).1)):=by kernel_rfl
theorem psm_0_1 : gCut Tryz.prog { gam:=gamN o } 26 prM (psI 0 1 x b m) nG (psK ++ [nF]) (prT [8,10,13]) = some (.normal,psI 0 2 x (pmO o b (fun k=>x k 0) (fun k=>x k 1)).2 (setM m 0 1 (pmO o b (fun k=>x k 0) (fun k=>x k 1)).1)):=by kernel_rfl
theorem psm_0_2 : gCut Tryz.prog { gam:=gamN o } 26 prM (psI 0 2 x b m) nG (psK ++ [nF]) (prT [8,10,13]) = some (.normal,psI 0 3 x (pmO o b (fun k=>x k 0) (fun k=>x k 2)).2 (setM m 0 2 (pmO o b (fun k=>x k 0) (fun k=>x k 2)).1)):=by kernel_rfl
theorem psm_0_3 : gCut Tryz.prog { gam:=gamN o } 26 prM (psI 0 3 x b m) nG (psK ++ [nF]) (prT [8,10,13]) = some (.normal,psI 0 4 x (pmO o b (fun k=>x k 0) (fun k=>x k 3)).2 (setM m 0 3 (pmO o b (fun k=>x k 0) (fun k=>x k 3)).1)):=by kernel_rfl
theorem psm_0_4 : gCut Tryz.prog { gam:=gamN o } 26 prM (psI 0 4 x b m) nG (psK ++ [nF]) (prT [8,10,13]) = some (.normal,psI 0 5 x (pmO o b (fun k=>x k 0) (fun k=>x k 4)).2 (setM m 0 4 (pmO o b (fun k=>x k 0) (fun k=>x k 4)).1)):=by kernel_rfl
theorem psm_0_5 : gCut Tryz.prog { gam:=gamN o } 26 prM (psI 0 5 x b m) nG (psK ++ [nF]) (prT [8,10,13]) = some (.normal,psI 0 6 x (pmO o b (fun k=>x k 0) (fun k=>x k 5)).2 (setM m 0 5 (pmO o b (fun k=>x k 0) (fun k=>x k 5)).1)):=by kernel_rfl
theorem psm_0_6 : gCut Tryz.prog { gam:=gamN o } 26 prM (psI 0 6 x b m) nG (psK ++ [nF]) (prT [8,10]) = some (.exit 2,psJ 0 x b m):=by kernel_rfl
theorem psc_0 : gRun Tryz.prog { gam:=gamN o } 26 pr10 (psJ 0 x b m) psK (prT [10]) = some (.normal,{ psO 1 x b m with lo:=nG }):=by kernel_rfl
theorem pso_0 (j : Int) : okClean nG (psI 0 j x b m) = true:=by kernel_rfl
theorem psp_0 : okClean nG (psJ 0 x b m) = true:=by kernel_rfl
def psU_1 (x : Mx) (b : Bool) (m : Mx) : St:=prS [(10,.val (.int .i64 1)),(11,.val (.bool true))] (psH x b m []) nF
theorem psa_1 : gRun Tryz.prog { gam:=gamN o } 26 pr3 (psO 1 x b m) psK (prT [10,11]) = some (.normal,psU_1 x b m):=by kernel_rfl
theorem psA_1 : gRun Tryz.prog { gam:=gamN o } 26 pr3b (psU_1 x b m) psK (prT [10]) = some (.normal,psO 1 x b m):=by kernel_rfl
theorem psb_1 : gRun Tryz.prog { gam:=gamN o } 26 pr4 (psO 1 x b m) (psK ++ [nF]) (prT [8,10]) = some (.normal,psJ 1 x b m):=by kernel_rfl
theorem psB_1 : gRun Tryz.prog { gam:=gamN o } 26 pr5 (psJ 1 x b m) (psK ++ [nF]) (prT [8,10,13]) = some (.normal,psI 1 0 x b m):=by kernel_rfl
theorem psm_1_0 : gCut Tryz.prog { gam:=gamN o } 26 prM (psI 1 0 x b m) nG (psK ++ [nF]) (prT [8,10,13]) = some (.normal,psI 1 1 x (pmO o b (fun k=>x k 1) (fun k=>x k 0)).2 (setM m 1 0 (pmO o b (fun k=>x k 1) (fun k=>x k 0)).1)):=by kernel_rfl
theorem psm_1_1 : gCut Tryz.prog { gam:=gamN o } 26 prM (psI 1 1 x b m) nG (psK ++ [nF]) (prT [8,10,13]) = some (.normal,psI 1 2 x (pmO o b (fun k=>x k 1) (fun k=>x k 1)).2 (setM m 1 1 (pmO o b (fun k=>x k 1) (fun k=>x k 1)).1)):=by kernel_rfl
theorem psm_1_2 : gCut Tryz.prog { gam:=gamN o } 26 prM (psI 1 2 x b m) nG (psK ++ [nF]) (prT [8,10,13]) = some (.normal,psI 1 3 x (pmO o b (fun k=>x k 1) (fun k=>x k 2)).2 (setM m 1 2 (pmO o b (fun k=>x k 1) (fun k=>x k 2)).1)):=by kernel_rfl
theorem psm_1_3 : gCut Tryz.prog { gam:=gamN o } 26 prM (psI 1 3 x b m) nG (psK ++ [nF]) (prT [8,10,13]) = some (.normal,psI 1 4 x (pmO o b (fun k=>x k 1) (fun k=>x k 3)).2 (setM m 1 3 (pmO o b (fun k=>x k 1) (fun k=>x k 3)).1)):=by kernel_rfl
theorem psm_1_4 : gCut Tryz.prog { gam:=gamN o } 26 prM (psI 1 4 x b m) nG (psK ++ [nF]) (prT [8,10,13]) = some (.normal,psI 1 5 x (pmO o b (fun k=>x k 1) (fun k=>x k 4)).2 (setM m 1 4 (pmO o b (fun k=>x k 1) (fun k=>x k 4)).1)):=by kernel_rfl
theorem psm_1_5 : gCut Tryz.prog { gam:=gamN o } 26 prM (psI 1 5 x b m) nG (psK ++ [nF]) (prT [8,10,13]) = some (.normal,psI 1 6 x (pmO o b (fun k=>x k 1) (fun k=>x k 5)).2 (setM m 1 5 (pmO o b (fun k=>x k 1) (fun k=>x k 5)).1)):=by kernel_rfl
theorem psm_1_6 : gCut Tryz.prog { gam:=gamN o } 26 prM (psI 1 6 x b m) nG (psK ++ [nF]) (prT [8,10]) = some (.exit 2,psJ 1 x b m):=by kernel_rfl
theorem psc_1 : gRun Tryz.prog { gam:=gamN o } 26 pr10 (psJ 1 x b m) psK (prT [10]) = some (.normal,{ psO 2 x b m with lo:=nG }):=by kernel_rfl
theorem pso_1 (j : Int) : okClean nG (psI 1 j x b m) = true:=by kernel_rfl
theorem psp_1 : okClean nG (psJ 1 x b m) = true:=by kernel_rfl
def psU_2 (x : Mx) (b : Bool) (m : Mx) : St:=prS [(10,.val (.int .i64 2)),(11,.val (.bool true))] (psH x b m []) nF
theorem psa_2 : gRun Tryz.prog { gam:=gamN o } 26 pr3 (psO 2 x b m) psK (prT [10,11]) = some (.normal,psU_2 x b m):=by kernel_rfl
theorem psA_2 : gRun Tryz.prog { gam:=gamN o } 26 pr3b (psU_2 x b m) psK (prT [10]) = some (.normal,psO 2 x b m):=by kernel_rfl
theorem psb_2 : gRun Tryz.prog { gam:=gamN o } 26 pr4 (psO 2 x b m) (psK ++ [nF]) (prT [8,10]) = some (.normal,psJ 2 x b m):=by kernel_rfl
theorem psB_2 : gRun Tryz.prog { gam:=gamN o } 26 pr5 (psJ 2 x b m) (psK ++ [nF]) (prT [8,10,13]) = some (.normal,psI 2 0 x b m):=by kernel_rfl
theorem psm_2_0 : gCut Tryz.prog { gam:=gamN o } 26 prM (psI 2 0 x b m) nG (psK ++ [nF]) (prT [8,10,13]) = some (.normal,psI 2 1 x (pmO o b (fun k=>x k 2) (fun k=>x k 0)).2 (setM m 2 0 (pmO o b (fun k=>x k 2) (fun k=>x k 0)).1)):=by kernel_rfl
theorem psm_2_1 : gCut Tryz.prog { gam:=gamN o } 26 prM (psI 2 1 x b m) nG (psK ++ [nF]) (prT [8,10,13]) = some (.normal,psI 2 2 x (pmO o b (fun k=>x k 2) (fun k=>x k 1)).2 (setM m 2 1 (pmO o b (fun k=>x k 2) (fun k=>x k 1)).1)):=by kernel_rfl
theorem psm_2_2 : gCut Tryz.prog { gam:=gamN o } 26 prM (psI 2 2 x b m) nG (psK ++ [nF]) (prT [8,10,13]) = some (.normal,psI 2 3 x (pmO o b (fun k=>x k 2) (fun k=>x k 2)).2 (setM m 2 2 (pmO o b (fun k=>x k 2) (fun k=>x k 2)).1)):=by kernel_rfl
theorem psm_2_3 : gCut Tryz.prog { gam:=gamN o } 26 prM (psI 2 3 x b m) nG (psK ++ [nF]) (prT [8,10,13]) = some (.normal,psI 2 4 x (pmO o b (fun k=>x k 2) (fun k=>x k 3)).2 (setM m 2 3 (pmO o b (fun k=>x k 2) (fun k=>x k 3)).1)):=by kernel_rfl
theorem psm_2_4 : gCut Tryz.prog { gam:=gamN o } 26 prM (psI 2 4 x b m) nG (psK ++ [nF]) (prT [8,10,13]) = some (.normal,psI 2 5 x (pmO o b (fun k=>x k 2) (fun k=>x k 4)).2 (setM m 2 4 (pmO o b (fun k=>x k 2) (fun k=>x k 4)).1)):=by kernel_rfl
theorem psm_2_5 : gCut Tryz.prog { gam:=gamN o } 26 prM (psI 2 5 x b m) nG (psK ++ [nF]) (prT [8,10,13]) = some (.normal,psI 2 6 x (pmO o b (fun k=>x k 2) (fun k=>x k 5)).2 (setM m 2 5 (pmO o b (fun k=>x k 2) (fun k=>x k 5)).1)):=by kernel_rfl
theorem psm_2_6 : gCut Tryz.prog { gam:=gamN o } 26 prM (psI 2 6 x b m) nG (psK ++ [nF]) (prT [8,10]) = some (.exit 2,psJ 2 x b m):=by kernel_rfl
theorem psc_2 : gRun Tryz.prog { gam:=gamN o } 26 pr10 (psJ 2 x b m) psK (prT [10]) = some (.normal,{ psO 3 x b m with lo:=nG }):=by kernel_rfl
theorem pso_2 (j : Int) : okClean nG (psI 2 j x b m) = true:=by kernel_rfl
theorem psp_2 : okClean nG (psJ 2 x b m) = true:=by kernel_rfl
def psU_3 (x : Mx) (b : Bool) (m : Mx) : St:=prS [(10,.val (.int .i64 3)),(11,.val (.bool true))] (psH x b m []) nF
theorem psa_3 : gRun Tryz.prog { gam:=gamN o } 26 pr3 (psO 3 x b m) psK (prT [10,11]) = some (.normal,psU_3 x b m):=by kernel_rfl
theorem psA_3 : gRun Tryz.prog { gam:=gamN o } 26 pr3b (psU_3 x b m) psK (prT [10]) = some (.normal,psO 3 x b m):=by kernel_rfl
theorem psb_3 : gRun Tryz.prog { gam:=gamN o } 26 pr4 (psO 3 x b m) (psK ++ [nF]) (prT [8,10]) = some (.normal,psJ 3 x b m):=by kernel_rfl
theorem psB_3 : gRun Tryz.prog { gam:=gamN o } 26 pr5 (psJ 3 x b m) (psK ++ [nF]) (prT [8,10,13]) = some (.normal,psI 3 0 x b m):=by kernel_rfl
theorem psm_3_0 : gCut Tryz.prog { gam:=gamN o } 26 prM (psI 3 0 x b m) nG (psK ++ [nF]) (prT [8,10,13]) = some (.normal,psI 3 1 x (pmO o b (fun k=>x k 3) (fun k=>x k 0)).2 (setM m 3 0 (pmO o b (fun k=>x k 3) (fun k=>x k 0)).1)):=by kernel_rfl
theorem psm_3_1 : gCut Tryz.prog { gam:=gamN o } 26 prM (psI 3 1 x b m) nG (psK ++ [nF]) (prT [8,10,13]) = some (.normal,psI 3 2 x (pmO o b (fun k=>x k 3) (fun k=>x k 1)).2 (setM m 3 1 (pmO o b (fun k=>x k 3) (fun k=>x k 1)).1)):=by kernel_rfl
theorem psm_3_2 : gCut Tryz.prog { gam:=gamN o } 26 prM (psI 3 2 x b m) nG (psK ++ [nF]) (prT [8,10,13]) = some (.normal,psI 3 3 x (pmO o b (fun k=>x k 3) (fun k=>x k 2)).2 (setM m 3 2 (pmO o b (fun k=>x k 3) (fun k=>x k 2)).1)):=by kernel_rfl
theorem psm_3_3 : gCut Tryz.prog { gam:=gamN o } 26 prM (psI 3 3 x b m) nG (psK ++ [nF]) (prT [8,10,13]) = some (.normal,psI 3 4 x (pmO o b (fun k=>x k 3) (fun k=>x k 3)).2 (setM m 3 3 (pmO o b (fun k=>x k 3) (fun k=>x k 3)).1)):=by kernel_rfl
theorem psm_3_4 : gCut Tryz.prog { gam:=gamN o } 26 prM (psI 3 4 x b m) nG (psK ++ [nF]) (prT [8,10,13]) = some (.normal,psI 3 5 x (pmO o b (fun k=>x k 3) (fun k=>x k 4)).2 (setM m 3 4 (pmO o b (fun k=>x k 3) (fun k=>x k 4)).1)):=by kernel_rfl
theorem psm_3_5 : gCut Tryz.prog { gam:=gamN o } 26 prM (psI 3 5 x b m) nG (psK ++ [nF]) (prT [8,10,13]) = some (.normal,psI 3 6 x (pmO o b (fun k=>x k 3) (fun k=>x k 5)).2 (setM m 3 5 (pmO o b (fun k=>x k 3) (fun k=>x k 5)).1)):=by kernel_rfl
theorem psm_3_6 : gCut Tryz.prog { gam:=gamN o } 26 prM (psI 3 6 x b m) nG (psK ++ [nF]) (prT [8,10]) = some (.exit 2,psJ 3 x b m):=by kernel_rfl
theorem psc_3 : gRun Tryz.prog { gam:=gamN o } 26 pr10 (psJ 3 x b m) psK (prT [10]) = some (.normal,{ psO 4 x b m with lo:=nG }):=by kernel_rfl
theorem pso_3 (j : Int) : okClean nG (psI 3 j x b m) = true:=by kernel_rfl
theorem psp_3 : okClean nG (psJ 3 x b m) = true:=by kernel_rfl
def psU_4 (x : Mx) (b : Bool) (m : Mx) : St:=prS [(10,.val (.int .i64 4)),(11,.val (.bool true))] (psH x b m []) nF
theorem psa_4 : gRun Tryz.prog { gam:=gamN o } 26 pr3 (psO 4 x b m) psK (prT [10,11]) = some (.normal,psU_4 x b m):=by kernel_rfl
theorem psA_4 : gRun Tryz.prog { gam:=gamN o } 26 pr3b (psU_4 x b m) psK (prT [10]) = some (.normal,psO 4 x b m):=by kernel_rfl
theorem psb_4 : gRun Tryz.prog { gam:=gamN o } 26 pr4 (psO 4 x b m) (psK ++ [nF]) (prT [8,10]) = some (.normal,psJ 4 x b m):=by kernel_rfl
theorem psB_4 : gRun Tryz.prog { gam:=gamN o } 26 pr5 (psJ 4 x b m) (psK ++ [nF]) (prT [8,10,13]) = some (.normal,psI 4 0 x b m):=by kernel_rfl
theorem psm_4_0 : gCut Tryz.prog { gam:=gamN o } 26 prM (psI 4 0 x b m) nG (psK ++ [nF]) (prT [8,10,13]) = some (.normal,psI 4 1 x (pmO o b (fun k=>x k 4) (fun k=>x k 0)).2 (setM m 4 0 (pmO o b (fun k=>x k 4) (fun k=>x k 0)).1)):=by kernel_rfl
theorem psm_4_1 : gCut Tryz.prog { gam:=gamN o } 26 prM (psI 4 1 x b m) nG (psK ++ [nF]) (prT [8,10,13]) = some (.normal,psI 4 2 x (pmO o b (fun k=>x k 4) (fun k=>x k 1)).2 (setM m 4 1 (pmO o b (fun k=>x k 4) (fun k=>x k 1)).1)):=by kernel_rfl
theorem psm_4_2 : gCut Tryz.prog { gam:=gamN o } 26 prM (psI 4 2 x b m) nG (psK ++ [nF]) (prT [8,10,13]) = some (.normal,psI 4 3 x (pmO o b (fun k=>x k 4) (fun k=>x k 2)).2 (setM m 4 2 (pmO o b (fun k=>x k 4) (fun k=>x k 2)).1)):=by kernel_rfl
theorem psm_4_3 : gCut Tryz.prog { gam:=gamN o } 26 prM (psI 4 3 x b m) nG (psK ++ [nF]) (prT [8,10,13]) = some (.normal,psI 4 4 x (pmO o b (fun k=>x k 4) (fun k=>x k 3)).2 (setM m 4 3 (pmO o b (fun k=>x k 4) (fun k=>x k 3)).1)):=by kernel_rfl
theorem psm_4_4 : gCut Tryz.prog { gam:=gamN o } 26 prM (psI 4 4 x b m) nG (psK ++ [nF]) (prT [8,10,13]) = some (.normal,psI 4 5 x (pmO o b (fun k=>x k 4) (fun k=>x k 4)).2 (setM m 4 4 (pmO o b (fun k=>x k 4) (fun k=>x k 4)).1)):=by kernel_rfl
theorem psm_4_5 : gCut Tryz.prog { gam:=gamN o } 26 prM (psI 4 5 x b m) nG (psK ++ [nF]) (prT [8,10,13]) = some (.normal,psI 4 6 x (pmO o b (fun k=>x k 4) (fun k=>x k 5)).2 (setM m 4 5 (pmO o b (fun k=>x k 4) (fun k=>x k 5)).1)):=by kernel_rfl
theorem psm_4_6 : gCut Tryz.prog { gam:=gamN o } 26 prM (psI 4 6 x b m) nG (psK ++ [nF]) (prT [8,10]) = some (.exit 2,psJ 4 x b m):=by kernel_rfl
theorem psc_4 : gRun Tryz.prog { gam:=gamN o } 26 pr10 (psJ 4 x b m) psK (prT [10]) = some (.normal,{ psO 5 x b m with lo:=nG }):=by kernel_rfl
theorem pso_4 (j : Int) : okClean nG (psI 4 j x b m) = true:=by kernel_rfl
theorem psp_4 : okClean nG (psJ 4 x b m) = true:=by kernel_rfl
def psU_5 (x : Mx) (b : Bool) (m : Mx) : St:=prS [(10,.val (.int .i64 5)),(11,.val (.bool true))] (psH x b m []) nF
theorem psa_5 : gRun Tryz.prog { gam:=gamN o } 26 pr3 (psO 5 x b m) psK (prT [10,11]) = some (.normal,psU_5 x b m):=by kernel_rfl
theorem psA_5 : gRun Tryz.prog { gam:=gamN o } 26 pr3b (psU_5 x b m) psK (prT [10]) = some (.normal,psO 5 x b m):=by kernel_rfl
theorem psb_5 : gRun Tryz.prog { gam:=gamN o } 26 pr4 (psO 5 x b m) (psK ++ [nF]) (prT [8,10]) = some (.normal,psJ 5 x b m):=by kernel_rfl
theorem psB_5 : gRun Tryz.prog { gam:=gamN o } 26 pr5 (psJ 5 x b m) (psK ++ [nF]) (prT [8,10,13]) = some (.normal,psI 5 0 x b m):=by kernel_rfl
theorem psm_5_0 : gCut Tryz.prog { gam:=gamN o } 26 prM (psI 5 0 x b m) nG (psK ++ [nF]) (prT [8,10,13]) = some (.normal,psI 5 1 x (pmO o b (fun k=>x k 5) (fun k=>x k 0)).2 (setM m 5 0 (pmO o b (fun k=>x k 5) (fun k=>x k 0)).1)):=by kernel_rfl
theorem psm_5_1 : gCut Tryz.prog { gam:=gamN o } 26 prM (psI 5 1 x b m) nG (psK ++ [nF]) (prT [8,10,13]) = some (.normal,psI 5 2 x (pmO o b (fun k=>x k 5) (fun k=>x k 1)).2 (setM m 5 1 (pmO o b (fun k=>x k 5) (fun k=>x k 1)).1)):=by kernel_rfl
theorem psm_5_2 : gCut Tryz.prog { gam:=gamN o } 26 prM (psI 5 2 x b m) nG (psK ++ [nF]) (prT [8,10,13]) = some (.normal,psI 5 3 x (pmO o b (fun k=>x k 5) (fun k=>x k 2)).2 (setM m 5 2 (pmO o b (fun k=>x k 5) (fun k=>x k 2)).1)):=by kernel_rfl
theorem psm_5_3 : gCut Tryz.prog { gam:=gamN o } 26 prM (psI 5 3 x b m) nG (psK ++ [nF]) (prT [8,10,13]) = some (.normal,psI 5 4 x (pmO o b (fun k=>x k 5) (fun k=>x k 3)).2 (setM m 5 3 (pmO o b (fun k=>x k 5) (fun k=>x k 3)).1)):=by kernel_rfl
theorem psm_5_4 : gCut Tryz.prog { gam:=gamN o } 26 prM (psI 5 4 x b m) nG (psK ++ [nF]) (prT [8,10,13]) = some (.normal,psI 5 5 x (pmO o b (fun k=>x k 5) (fun k=>x k 4)).2 (setM m 5 4 (pmO o b (fun k=>x k 5) (fun k=>x k 4)).1)):=by kernel_rfl
theorem psm_5_5 : gCut Tryz.prog { gam:=gamN o } 26 prM (psI 5 5 x b m) nG (psK ++ [nF]) (prT [8,10,13]) = some (.normal,psI 5 6 x (pmO o b (fun k=>x k 5) (fun k=>x k 5)).2 (setM m 5 5 (pmO o b (fun k=>x k 5) (fun k=>x k 5)).1)):=by kernel_rfl
theorem psm_5_6 : gCut Tryz.prog { gam:=gamN o } 26 prM (psI 5 6 x b m) nG (psK ++ [nF]) (prT [8,10]) = some (.exit 2,psJ 5 x b m):=by kernel_rfl
theorem psc_5 : gRun Tryz.prog { gam:=gamN o } 26 pr10 (psJ 5 x b m) psK (prT [10]) = some (.normal,{ psO 6 x b m with lo:=nG }):=by kernel_rfl
theorem pso_5 (j : Int) : okClean nG (psI 5 j x b m) = true:=by kernel_rfl
theorem psp_5 : okClean nG (psJ 5 x b m) = true:=by kernel_rfl
theorem psW_0 : okClean nF ({ psO 1 x b m with lo:=nG } : St) = true:=by kernel_rfl
theorem psW_1 : okClean nF ({ psO 2 x b m with lo:=nG } : St) = true:=by kernel_rfl
theorem psW_2 : okClean nF ({ psO 3 x b m with lo:=nG } : St) = true:=by kernel_rfl
theorem psW_3 : okClean nF ({ psO 4 x b m with lo:=nG } : St) = true:=by kernel_rfl
theorem psW_4 : okClean nF ({ psO 5 x b m with lo:=nG } : St) = true:=by kernel_rfl
theorem psW_5 : okClean nF ({ psO 6 x b m with lo:=nG } : St) = true:=by kernel_rfl
theorem psx : gCut Tryz.prog { gam:=gamN o } 26 prL (psO 6 x b m) nF psK (prT []) = some (.exit 0,prS [] (psH x b m []) nF):=by kernel_rfl
theorem psy : okClean nF (prS [] (psH x b m []) nF) = true:=by kernel_rfl
theorem pse : gRun Tryz.prog { gam:=gamN o } 26 prE (prS [] (psH x b m []) nF) [0,1,nD] [6] = some (.ret,psF x b m):=by kernel_rfl
theorem psr : resA Tryz.prog (psF x b m) Tryz.f58.results.toList = some [.val (Cod.enc (M6.of m))]:=by kernel_rfl
end
section
variable {o : Ops} (hG : GamOk Tryz.prog ({ gam:=gamN o } : Env).gam) (x m : Mx) (b : Bool)
include hG
omit hG in
theorem pslo (i j : Int) : (psI i j x b m).lo = nG:=rfl
omit hG in
theorem pslo1 (i : Int) : (psO i x b m).lo = nF:=rfl
theorem psM_0_0 : RunsTo Tryz.prog 26 prM (psI 0 0 x b m) .normal (psI 0 1 x (pmO o b (fun k=>x k 0) (fun k=>x k 0)).2 (setM m 0 0 (pmO o b (fun k=>x k 0) (fun k=>x k 0)).1)):=gCut_runs hG (psm_0_0 o x m b) (pslo ..) (pso_0 ..) rfl
theorem psM_0_1 : RunsTo Tryz.prog 26 prM (psI 0 1 x b m) .normal (psI 0 2 x (pmO o b (fun k=>x k 0) (fun k=>x k 1)).2 (setM m 0 1 (pmO o b (fun k=>x k 0) (fun k=>x k 1)).1)):=gCut_runs hG (psm_0_1 o x m b) (pslo ..) (pso_0 ..) rfl
theorem psM_0_2 : RunsTo Tryz.prog 26 prM (psI 0 2 x b m) .normal (psI 0 3 x (pmO o b (fun k=>x k 0) (fun k=>x k 2)).2 (setM m 0 2 (pmO o b (fun k=>x k 0) (fun k=>x k 2)).1)):=gCut_runs hG (psm_0_2 o x m b) (pslo ..) (pso_0 ..) rfl
theorem psM_0_3 : RunsTo Tryz.prog 26 prM (psI 0 3 x b m) .normal (psI 0 4 x (pmO o b (fun k=>x k 0) (fun k=>x k 3)).2 (setM m 0 3 (pmO o b (fun k=>x k 0) (fun k=>x k 3)).1)):=gCut_runs hG (psm_0_3 o x m b) (pslo ..) (pso_0 ..) rfl
theorem psM_0_4 : RunsTo Tryz.prog 26 prM (psI 0 4 x b m) .normal (psI 0 5 x (pmO o b (fun k=>x k 0) (fun k=>x k 4)).2 (setM m 0 4 (pmO o b (fun k=>x k 0) (fun k=>x k 4)).1)):=gCut_runs hG (psm_0_4 o x m b) (pslo ..) (pso_0 ..) rfl
theorem psM_0_5 : RunsTo Tryz.prog 26 prM (psI 0 5 x b m) .normal (psI 0 6 x (pmO o b (fun k=>x k 0) (fun k=>x k 5)).2 (setM m 0 5 (pmO o b (fun k=>x k 0) (fun k=>x k 5)).1)):=gCut_runs hG (psm_0_5 o x m b) (pslo ..) (pso_0 ..) rfl
theorem psM_0_6 : RunsTo Tryz.prog 26 prM (psI 0 6 x b m) (.exit 2) (psJ 0 x b m):=gCut_runs hG (psm_0_6 o x m b) (pslo ..) (psp_0 ..) rfl
theorem psN_0 : RunsTo Tryz.prog 26 (.block 2 (.loop prM)) (psI 0 0 x b m) .normal (psJ 0 x (prI_F o x x 0 (m,b)).2 (prI_F o x x 0 (m,b)).1) :=
  RunsTo.rounds (P:=Tryz.prog) (N:=26) (c:=prM) (id:=2) 6 (fun j z=>psI 0 j x z.2 z.1) (fun z=>psJ 0 x z.2 z.1) (prJ_F o x x 0)
    (fun j z hj=>match j,hj with
      | 0,_=>psM_0_0 hG x z.1 z.2
      | 1,_=>psM_0_1 hG x z.1 z.2
      | 2,_=>psM_0_2 hG x z.1 z.2
      | 3,_=>psM_0_3 hG x z.1 z.2
      | 4,_=>psM_0_4 hG x z.1 z.2
      | 5,_=>psM_0_5 hG x z.1 z.2
      | n + 6,h=>absurd h (by omega))
    (fun z=>psM_0_6 hG x z.1 z.2) (m,b)
theorem psR_0 : RunsTo Tryz.prog 26 prL (psO 0 x b m) .normal (psO 1 x (prI_F o x x 0 (m,b)).2 (prI_F o x x 0 (m,b)).1):=by
  rw [prL_is]
  have h:=(gRun_runs hG (psb_0 o x m b)).seq ((gRun_runs hG (psB_0 o x m b)).seq (psN_0 hG x m b))
  generalize prI_F o x x 0 (m,b) = z at h ⊢
  exact ((gRun_runs hG (psa_0 o x m b)).seq ((gRun_runs hG (psA_0 o x m b)).seq ((h.block (.inl rfl)).seq (gRun_runs hG (psc_0 o x z.1 z.2))))).freed (pslo1 ..) (psW_0 ..) rfl
theorem psM_1_0 : RunsTo Tryz.prog 26 prM (psI 1 0 x b m) .normal (psI 1 1 x (pmO o b (fun k=>x k 1) (fun k=>x k 0)).2 (setM m 1 0 (pmO o b (fun k=>x k 1) (fun k=>x k 0)).1)):=gCut_runs hG (psm_1_0 o x m b) (pslo ..) (pso_1 ..) rfl
theorem psM_1_1 : RunsTo Tryz.prog 26 prM (psI 1 1 x b m) .normal (psI 1 2 x (pmO o b (fun k=>x k 1) (fun k=>x k 1)).2 (setM m 1 1 (pmO o b (fun k=>x k 1) (fun k=>x k 1)).1)):=gCut_runs hG (psm_1_1 o x m b) (pslo ..) (pso_1 ..) rfl
theorem psM_1_2 : RunsTo Tryz.prog 26 prM (psI 1 2 x b m) .normal (psI 1 3 x (pmO o b (fun k=>x k 1) (fun k=>x k 2)).2 (setM m 1 2 (pmO o b (fun k=>x k 1) (fun k=>x k 2)).1)):=gCut_runs hG (psm_1_2 o x m b) (pslo ..) (pso_1 ..) rfl
theorem psM_1_3 : RunsTo Tryz.prog 26 prM (psI 1 3 x b m) .normal (psI 1 4 x (pmO o b (fun k=>x k 1) (fun k=>x k 3)).2 (setM m 1 3 (pmO o b (fun k=>x k 1) (fun k=>x k 3)).1)):=gCut_runs hG (psm_1_3 o x m b) (pslo ..) (pso_1 ..) rfl
theorem psM_1_4 : RunsTo Tryz.prog 26 prM (psI 1 4 x b m) .normal (psI 1 5 x (pmO o b (fun k=>x k 1) (fun k=>x k 4)).2 (setM m 1 4 (pmO o b (fun k=>x k 1) (fun k=>x k 4)).1)):=gCut_runs hG (psm_1_4 o x m b) (pslo ..) (pso_1 ..) rfl
theorem psM_1_5 : RunsTo Tryz.prog 26 prM (psI 1 5 x b m) .normal (psI 1 6 x (pmO o b (fun k=>x k 1) (fun k=>x k 5)).2 (setM m 1 5 (pmO o b (fun k=>x k 1) (fun k=>x k 5)).1)):=gCut_runs hG (psm_1_5 o x m b) (pslo ..) (pso_1 ..) rfl
theorem psM_1_6 : RunsTo Tryz.prog 26 prM (psI 1 6 x b m) (.exit 2) (psJ 1 x b m):=gCut_runs hG (psm_1_6 o x m b) (pslo ..) (psp_1 ..) rfl
theorem psN_1 : RunsTo Tryz.prog 26 (.block 2 (.loop prM)) (psI 1 0 x b m) .normal (psJ 1 x (prI_F o x x 1 (m,b)).2 (prI_F o x x 1 (m,b)).1) :=
  RunsTo.rounds (P:=Tryz.prog) (N:=26) (c:=prM) (id:=2) 6 (fun j z=>psI 1 j x z.2 z.1) (fun z=>psJ 1 x z.2 z.1) (prJ_F o x x 1)
    (fun j z hj=>match j,hj with
      | 0,_=>psM_1_0 hG x z.1 z.2
      | 1,_=>psM_1_1 hG x z.1 z.2
      | 2,_=>psM_1_2 hG x z.1 z.2
      | 3,_=>psM_1_3 hG x z.1 z.2
      | 4,_=>psM_1_4 hG x z.1 z.2
      | 5,_=>psM_1_5 hG x z.1 z.2
      | n + 6,h=>absurd h (by omega))
    (fun z=>psM_1_6 hG x z.1 z.2) (m,b)
theorem psR_1 : RunsTo Tryz.prog 26 prL (psO 1 x b m) .normal (psO 2 x (prI_F o x x 1 (m,b)).2 (prI_F o x x 1 (m,b)).1):=by
  rw [prL_is]
  have h:=(gRun_runs hG (psb_1 o x m b)).seq ((gRun_runs hG (psB_1 o x m b)).seq (psN_1 hG x m b))
  generalize prI_F o x x 1 (m,b) = z at h ⊢
  exact ((gRun_runs hG (psa_1 o x m b)).seq ((gRun_runs hG (psA_1 o x m b)).seq ((h.block (.inl rfl)).seq (gRun_runs hG (psc_1 o x z.1 z.2))))).freed (pslo1 ..) (psW_1 ..) rfl
theorem psM_2_0 : RunsTo Tryz.prog 26 prM (psI 2 0 x b m) .normal (psI 2 1 x (pmO o b (fun k=>x k 2) (fun k=>x k 0)).2 (setM m 2 0 (pmO o b (fun k=>x k 2) (fun k=>x k 0)).1)):=gCut_runs hG (psm_2_0 o x m b) (pslo ..) (pso_2 ..) rfl
theorem psM_2_1 : RunsTo Tryz.prog 26 prM (psI 2 1 x b m) .normal (psI 2 2 x (pmO o b (fun k=>x k 2) (fun k=>x k 1)).2 (setM m 2 1 (pmO o b (fun k=>x k 2) (fun k=>x k 1)).1)):=gCut_runs hG (psm_2_1 o x m b) (pslo ..) (pso_2 ..) rfl
theorem psM_2_2 : RunsTo Tryz.prog 26 prM (psI 2 2 x b m) .normal (psI 2 3 x (pmO o b (fun k=>x k 2) (fun k=>x k 2)).2 (setM m 2 2 (pmO o b (fun k=>x k 2) (fun k=>x k 2)).1)):=gCut_runs hG (psm_2_2 o x m b) (pslo ..) (pso_2 ..) rfl
theorem psM_2_3 : RunsTo Tryz.prog 26 prM (psI 2 3 x b m) .normal (psI 2 4 x (pmO o b (fun k=>x k 2) (fun k=>x k 3)).2 (setM m 2 3 (pmO o b (fun k=>x k 2) (fun k=>x k 3)).1)):=gCut_runs hG (psm_2_3 o x m b) (pslo ..) (pso_2 ..) rfl
theorem psM_2_4 : RunsTo Tryz.prog 26 prM (psI 2 4 x b m) .normal (psI 2 5 x (pmO o b (fun k=>x k 2) (fun k=>x k 4)).2 (setM m 2 4 (pmO o b (fun k=>x k 2) (fun k=>x k 4)).1)):=gCut_runs hG (psm_2_4 o x m b) (pslo ..) (pso_2 ..) rfl
theorem psM_2_5 : RunsTo Tryz.prog 26 prM (psI 2 5 x b m) .normal (psI 2 6 x (pmO o b (fun k=>x k 2) (fun k=>x k 5)).2 (setM m 2 5 (pmO o b (fun k=>x k 2) (fun k=>x k 5)).1)):=gCut_runs hG (psm_2_5 o x m b) (pslo ..) (pso_2 ..) rfl
theorem psM_2_6 : RunsTo Tryz.prog 26 prM (psI 2 6 x b m) (.exit 2) (psJ 2 x b m):=gCut_runs hG (psm_2_6 o x m b) (pslo ..) (psp_2 ..) rfl
theorem psN_2 : RunsTo Tryz.prog 26 (.block 2 (.loop prM)) (psI 2 0 x b m) .normal (psJ 2 x (prI_F o x x 2 (m,b)).2 (prI_F o x x 2 (m,b)).1) :=
  RunsTo.rounds (P:=Tryz.prog) (N:=26) (c:=prM) (id:=2) 6 (fun j z=>psI 2 j x z.2 z.1) (fun z=>psJ 2 x z.2 z.1) (prJ_F o x x 2)
    (fun j z hj=>match j,hj with
      | 0,_=>psM_2_0 hG x z.1 z.2
      | 1,_=>psM_2_1 hG x z.1 z.2
      | 2,_=>psM_2_2 hG x z.1 z.2
      | 3,_=>psM_2_3 hG x z.1 z.2
      | 4,_=>psM_2_4 hG x z.1 z.2
      | 5,_=>psM_2_5 hG x z.1 z.2
      | n + 6,h=>absurd h (by omega))
    (fun z=>psM_2_6 hG x z.1 z.2) (m,b)
theorem psR_2 : RunsTo Tryz.prog 26 prL (psO 2 x b m) .normal (psO 3 x (prI_F o x x 2 (m,b)).2 (prI_F o x x 2 (m,b)).1):=by
  rw [prL_is]
  have h:=(gRun_runs hG (psb_2 o x m b)).seq ((gRun_runs hG (psB_2 o x m b)).seq (psN_2 hG x m b))
  generalize prI_F o x x 2 (m,b) = z at h ⊢
  exact ((gRun_runs hG (psa_2 o x m b)).seq ((gRun_runs hG (psA_2 o x m b)).seq ((h.block (.inl rfl)).seq (gRun_runs hG (psc_2 o x z.1 z.2))))).freed (pslo1 ..) (psW_2 ..) rfl
theorem psM_3_0 : RunsTo Tryz.prog 26 prM (psI 3 0 x b m) .normal (psI 3 1 x (pmO o b (fun k=>x k 3) (fun k=>x k 0)).2 (setM m 3 0 (pmO o b (fun k=>x k 3) (fun k=>x k 0)).1)):=gCut_runs hG (psm_3_0 o x m b) (pslo ..) (pso_3 ..) rfl
theorem psM_3_1 : RunsTo Tryz.prog 26 prM (psI 3 1 x b m) .normal (psI 3 2 x (pmO o b (fun k=>x k 3) (fun k=>x k 1)).2 (setM m 3 1 (pmO o b (fun k=>x k 3) (fun k=>x k 1)).1)):=gCut_runs hG (psm_3_1 o x m b) (pslo ..) (pso_3 ..) rfl
theorem psM_3_2 : RunsTo Tryz.prog 26 prM (psI 3 2 x b m) .normal (psI 3 3 x (pmO o b (fun k=>x k 3) (fun k=>x k 2)).2 (setM m 3 2 (pmO o b (fun k=>x k 3) (fun k=>x k 2)).1)):=gCut_runs hG (psm_3_2 o x m b) (pslo ..) (pso_3 ..) rfl
theorem psM_3_3 : RunsTo Tryz.prog 26 prM (psI 3 3 x b m) .normal (psI 3 4 x (pmO o b (fun k=>x k 3) (fun k=>x k 3)).2 (setM m 3 3 (pmO o b (fun k=>x k 3) (fun k=>x k 3)).1)):=gCut_runs hG (psm_3_3 o x m b) (pslo ..) (pso_3 ..) rfl
theorem psM_3_4 : RunsTo Tryz.prog 26 prM (psI 3 4 x b m) .normal (psI 3 5 x (pmO o b (fun k=>x k 3) (fun k=>x k 4)).2 (setM m 3 4 (pmO o b (fun k=>x k 3) (fun k=>x k 4)).1)):=gCut_runs hG (psm_3_4 o x m b) (pslo ..) (pso_3 ..) rfl
theorem psM_3_5 : RunsTo Tryz.prog 26 prM (psI 3 5 x b m) .normal (psI 3 6 x (pmO o b (fun k=>x k 3) (fun k=>x k 5)).2 (setM m 3 5 (pmO o b (fun k=>x k 3) (fun k=>x k 5)).1)):=gCut_runs hG (psm_3_5 o x m b) (pslo ..) (pso_3 ..) rfl
theorem psM_3_6 : RunsTo Tryz.prog 26 prM (psI 3 6 x b m) (.exit 2) (psJ 3 x b m):=gCut_runs hG (psm_3_6 o x m b) (pslo ..) (psp_3 ..) rfl
theorem psN_3 : RunsTo Tryz.prog 26 (.block 2 (.loop prM)) (psI 3 0 x b m) .normal (psJ 3 x (prI_F o x x 3 (m,b)).2 (prI_F o x x 3 (m,b)).1) :=
  RunsTo.rounds (P:=Tryz.prog) (N:=26) (c:=prM) (id:=2) 6 (fun j z=>psI 3 j x z.2 z.1) (fun z=>psJ 3 x z.2 z.1) (prJ_F o x x 3)
    (fun j z hj=>match j,hj with
      | 0,_=>psM_3_0 hG x z.1 z.2
      | 1,_=>psM_3_1 hG x z.1 z.2
      | 2,_=>psM_3_2 hG x z.1 z.2
      | 3,_=>psM_3_3 hG x z.1 z.2
      | 4,_=>psM_3_4 hG x z.1 z.2
      | 5,_=>psM_3_5 hG x z.1 z.2
      | n + 6,h=>absurd h (by omega))
    (fun z=>psM_3_6 hG x z.1 z.2) (m,b)
theorem psR_3 : RunsTo Tryz.prog 26 prL (psO 3 x b m) .normal (psO 4 x (prI_F o x x 3 (m,b)).2 (prI_F o x x 3 (m,b)).1):=by
  rw [prL_is]
  have h:=(gRun_runs hG (psb_3 o x m b)).seq ((gRun_runs hG (psB_3 o x m b)).seq (psN_3 hG x m b))
  generalize prI_F o x x 3 (m,b) = z at h ⊢
  exact ((gRun_runs hG (psa_3 o x m b)).seq ((gRun_runs hG (psA_3 o x m b)).seq ((h.block (.inl rfl)).seq (gRun_runs hG (psc_3 o x z.1 z.2))))).freed (pslo1 ..) (psW_3 ..) rfl
theorem psM_4_0 : RunsTo Tryz.prog 26 prM (psI 4 0 x b m) .normal (psI 4 1 x (pmO o b (fun k=>x k 4) (fun k=>x k 0)).2 (setM m 4 0 (pmO o b (fun k=>x k 4) (fun k=>x k 0)).1)):=gCut_runs hG (psm_4_0 o x m b) (pslo ..) (pso_4 ..) rfl
theorem psM_4_1 : RunsTo Tryz.prog 26 prM (psI 4 1 x b m) .normal (psI 4 2 x (pmO o b (fun k=>x k 4) (fun k=>x k 1)).2 (setM m 4 1 (pmO o b (fun k=>x k 4) (fun k=>x k 1)).1)):=gCut_runs hG (psm_4_1 o x m b) (pslo ..) (pso_4 ..) rfl
theorem psM_4_2 : RunsTo Tryz.prog 26 prM (psI 4 2 x b m) .normal (psI 4 3 x (pmO o b (fun k=>x k 4) (fun k=>x k 2)).2 (setM m 4 2 (pmO o b (fun k=>x k 4) (fun k=>x k 2)).1)):=gCut_runs hG (psm_4_2 o x m b) (pslo ..) (pso_4 ..) rfl
theorem psM_4_3 : RunsTo Tryz.prog 26 prM (psI 4 3 x b m) .normal (psI 4 4 x (pmO o b (fun k=>x k 4) (fun k=>x k 3)).2 (setM m 4 3 (pmO o b (fun k=>x k 4) (fun k=>x k 3)).1)):=gCut_runs hG (psm_4_3 o x m b) (pslo ..) (pso_4 ..) rfl
theorem psM_4_4 : RunsTo Tryz.prog 26 prM (psI 4 4 x b m) .normal (psI 4 5 x (pmO o b (fun k=>x k 4) (fun k=>x k 4)).2 (setM m 4 4 (pmO o b (fun k=>x k 4) (fun k=>x k 4)).1)):=gCut_runs hG (psm_4_4 o x m b) (pslo ..) (pso_4 ..) rfl
theorem psM_4_5 : RunsTo Tryz.prog 26 prM (psI 4 5 x b m) .normal (psI 4 6 x (pmO o b (fun k=>x k 4) (fun k=>x k 5)).2 (setM m 4 5 (pmO o b (fun k=>x k 4) (fun k=>x k 5)).1)):=gCut_runs hG (psm_4_5 o x m b) (pslo ..) (pso_4 ..) rfl
theorem psM_4_6 : RunsTo Tryz.prog 26 prM (psI 4 6 x b m) (.exit 2) (psJ 4 x b m):=gCut_runs hG (psm_4_6 o x m b) (pslo ..) (psp_4 ..) rfl
theorem psN_4 : RunsTo Tryz.prog 26 (.block 2 (.loop prM)) (psI 4 0 x b m) .normal (psJ 4 x (prI_F o x x 4 (m,b)).2 (prI_F o x x 4 (m,b)).1) :=
  RunsTo.rounds (P:=Tryz.prog) (N:=26) (c:=prM) (id:=2) 6 (fun j z=>psI 4 j x z.2 z.1) (fun z=>psJ 4 x z.2 z.1) (prJ_F o x x 4)
    (fun j z hj=>match j,hj with
      | 0,_=>psM_4_0 hG x z.1 z.2
      | 1,_=>psM_4_1 hG x z.1 z.2
      | 2,_=>psM_4_2 hG x z.1 z.2
      | 3,_=>psM_4_3 hG x z.1 z.2
      | 4,_=>psM_4_4 hG x z.1 z.2
      | 5,_=>psM_4_5 hG x z.1 z.2
      | n + 6,h=>absurd h (by omega))
    (fun z=>psM_4_6 hG x z.1 z.2) (m,b)
theorem psR_4 : RunsTo Tryz.prog 26 prL (psO 4 x b m) .normal (psO 5 x (prI_F o x x 4 (m,b)).2 (prI_F o x x 4 (m,b)).1):=by
  rw [prL_is]
  have h:=(gRun_runs hG (psb_4 o x m b)).seq ((gRun_runs hG (psB_4 o x m b)).seq (psN_4 hG x m b))
  generalize prI_F o x x 4 (m,b) = z at h ⊢
  exact ((gRun_runs hG (psa_4 o x m b)).seq ((gRun_runs hG (psA_4 o x m b)).seq ((h.block (.inl rfl)).seq (gRun_runs hG (psc_4 o x z.1 z.2))))).freed (pslo1 ..) (psW_4 ..) rfl
theorem psM_5_0 : RunsTo Tryz.prog 26 prM (psI 5 0 x b m) .normal (psI 5 1 x (pmO o b (fun k=>x k 5) (fun k=>x k 0)).2 (setM m 5 0 (pmO o b (fun k=>x k 5) (fun k=>x k 0)).1)):=gCut_runs hG (psm_5_0 o x m b) (pslo ..) (pso_5 ..) rfl
theorem psM_5_1 : RunsTo Tryz.prog 26 prM (psI 5 1 x b m) .normal (psI 5 2 x (pmO o b (fun k=>x k 5) (fun k=>x k 1)).2 (setM m 5 1 (pmO o b (fun k=>x k 5) (fun k=>x k 1)).1)):=gCut_runs hG (psm_5_1 o x m b) (pslo ..) (pso_5 ..) rfl
theorem psM_5_2 : RunsTo Tryz.prog 26 prM (psI 5 2 x b m) .normal (psI 5 3 x (pmO o b (fun k=>x k 5) (fun k=>x k 2)).2 (setM m 5 2 (pmO o b (fun k=>x k 5) (fun k=>x k 2)).1)):=gCut_runs hG (psm_5_2 o x m b) (pslo ..) (pso_5 ..) rfl
theorem psM_5_3 : RunsTo Tryz.prog 26 prM (psI 5 3 x b m) .normal (psI 5 4 x (pmO o b (fun k=>x k 5) (fun k=>x k 3)).2 (setM m 5 3 (pmO o b (fun k=>x k 5) (fun k=>x k 3)).1)):=gCut_runs hG (psm_5_3 o x m b) (pslo ..) (pso_5 ..) rfl
theorem psM_5_4 : RunsTo Tryz.prog 26 prM (psI 5 4 x b m) .normal (psI 5 5 x (pmO o b (fun k=>x k 5) (fun k=>x k 4)).2 (setM m 5 4 (pmO o b (fun k=>x k 5) (fun k=>x k 4)).1)):=gCut_runs hG (psm_5_4 o x m b) (pslo ..) (pso_5 ..) rfl
theorem psM_5_5 : RunsTo Tryz.prog 26 prM (psI 5 5 x b m) .normal (psI 5 6 x (pmO o b (fun k=>x k 5) (fun k=>x k 5)).2 (setM m 5 5 (pmO o b (fun k=>x k 5) (fun k=>x k 5)).1)):=gCut_runs hG (psm_5_5 o x m b) (pslo ..) (pso_5 ..) rfl
theorem psM_5_6 : RunsTo Tryz.prog 26 prM (psI 5 6 x b m) (.exit 2) (psJ 5 x b m):=gCut_runs hG (psm_5_6 o x m b) (pslo ..) (psp_5 ..) rfl
theorem psN_5 : RunsTo Tryz.prog 26 (.block 2 (.loop prM)) (psI 5 0 x b m) .normal (psJ 5 x (prI_F o x x 5 (m,b)).2 (prI_F o x x 5 (m,b)).1) :=
  RunsTo.rounds (P:=Tryz.prog) (N:=26) (c:=prM) (id:=2) 6 (fun j z=>psI 5 j x z.2 z.1) (fun z=>psJ 5 x z.2 z.1) (prJ_F o x x 5)
    (fun j z hj=>match j,hj with
      | 0,_=>psM_5_0 hG x z.1 z.2
      | 1,_=>psM_5_1 hG x z.1 z.2
      | 2,_=>psM_5_2 hG x z.1 z.2
      | 3,_=>psM_5_3 hG x z.1 z.2
      | 4,_=>psM_5_4 hG x z.1 z.2
      | 5,_=>psM_5_5 hG x z.1 z.2
      | n + 6,h=>absurd h (by omega))
    (fun z=>psM_5_6 hG x z.1 z.2) (m,b)
theorem psR_5 : RunsTo Tryz.prog 26 prL (psO 5 x b m) .normal (psO 6 x (prI_F o x x 5 (m,b)).2 (prI_F o x x 5 (m,b)).1):=by
  rw [prL_is]
  have h:=(gRun_runs hG (psb_5 o x m b)).seq ((gRun_runs hG (psB_5 o x m b)).seq (psN_5 hG x m b))
  generalize prI_F o x x 5 (m,b) = z at h ⊢
  exact ((gRun_runs hG (psa_5 o x m b)).seq ((gRun_runs hG (psA_5 o x m b)).seq ((h.block (.inl rfl)).seq (gRun_runs hG (psc_5 o x z.1 z.2))))).freed (pslo1 ..) (psW_5 ..) rfl
theorem psX : RunsTo Tryz.prog 26 prL (psO 6 x b m) (.exit 0) (prS [] (psH x b m []) nF):=gCut_runs hG (psx o x m b) (pslo1 ..) (psy ..) rfl
theorem psL : RunsTo Tryz.prog 26 (.block 0 (.loop prL)) (psO 0 x b m) .normal (prS [] (psH x (iterF (prI_F o x x) 0 6 (m,b)).2 (iterF (prI_F o x x) 0 6 (m,b)).1 []) nF) :=
  RunsTo.rounds (P:=Tryz.prog) (N:=26) (c:=prL) (id:=0) 6 (fun i z=>psO i x z.2 z.1) (fun z=>prS [] (psH x z.2 z.1 []) nF) (prI_F o x x)
    (fun i z hi=>match i,hi with
      | 0,_=>psR_0 hG x z.1 z.2
      | 1,_=>psR_1 hG x z.1 z.2
      | 2,_=>psR_2 hG x z.1 z.2
      | 3,_=>psR_3 hG x z.1 z.2
      | 4,_=>psR_4 hG x z.1 z.2
      | 5,_=>psR_5 hG x z.1 z.2
      | n + 6,h=>absurd h (by omega))
    (fun z=>psX hG x z.1 z.2) (m,b)
omit m in
theorem ps_runs : RunsTo Tryz.prog 26 prC (startS 26 [.ptr 0 0,.ptr 1 0,.ptr 1 0] [.row 57 [.val (.bool b)],.row 112 (cells13 x)]) .ret (psF x (prodO o b x x).2 (prodO o b x x).1):=by
  have hc : prC = .seq pr0 (.seq pr1 (.seq (.seq pr2 (.block 0 (.loop prL))) prE)):=by
    unfold prC
    rw [prC_is]
    rfl
  rw [hc]
  have hL:=psL hG x mx0 b
  unfold prodO
  generalize iterF (prI_F o x x) 0 6 (mx0,b) = z at hL ⊢
  exact (gRun_runs hG (ps0 o x b)).seq ((gRun_runs hG (ps1 o x b)).seq (((gRun_runs hG (ps2 o x b)).seq hL).seq (gRun_runs hG (pse o x z.1 z.2))))
end
end Go.Ab
namespace Go.Ab
open Go Go.Proofs
def pdH (x y : Mx) (b : Bool) (m : Mx) (e : List (Nat × Con)) : Hp:=[(0,.row 57 [.val (.bool b)]),(1,.row 112 (cells13 x)),(2,.row 112 (cells13 y)),(nA,.row 55 [.ptr 0 0]),(nB,.row 121 [.ptr 1 0]),(nC,.row 121 [.ptr 2 0]),(nD,.row 40 (cells36 mx0)),(nE,.row 40 (cells36 m))] ++ e
abbrev pdK : List Nat:=[0,1,2,nA,nB,nC,nD,nE]
def pdO (i : Int) (x y : Mx) (b : Bool) (m : Mx) : St:=prS [(10,.val (.int .i64 i))] (pdH x y b m []) nF
def pdI (i j : Int) (x y : Mx) (b : Bool) (m : Mx) : St:=prS [(8,.ptr nF 0),(10,.val (.int .i64 i)),(13,.val (.int .i64 j))] (pdH x y b m [(nF,.row 3 [.val (.int .i64 i)])]) nG
def pdJ (i : Int) (x y : Mx) (b : Bool) (m : Mx) : St:=prS [(8,.ptr nF 0),(10,.val (.int .i64 i))] (pdH x y b m [(nF,.row 3 [.val (.int .i64 i)])]) nG
def pdF (x y : Mx) (b : Bool) (m : Mx) : St:=gSt 26 [(6,.ptr nD 0)] [(0,.row 57 [.val (.bool b)]),(1,.row 112 (cells13 x)),(2,.row 112 (cells13 y)),(nD,.row 40 (cells36 m))] nF
section
variable (o : Ops) (x y m : Mx) (b : Bool)
theorem pd0 : gRun Tryz.prog { gam:=gamN o } 26 pr0 (startS 26 [.ptr 0 0,.ptr 1 0,.ptr 2 0] [.row 57 [.val (.bool b)],.row 112 (cells13 x),.row 112 (cells13 y)]) [0,1,2,nA,nB,nC,nD] [3,4,5,6] = some (.normal,gSt 26 [(3,.ptr nA 0),(4,.ptr nB 0),(5,.ptr nC 0),(6,.ptr nD 0)] [(0,.row 57 [.val (.bool b)]),(1,.row 112 (cells13 x)),(2,.row 112 (cells13 y)),(nA,.row 55 [.ptr 0 0]),(nB,.row 121 [.ptr 1 0]),(nC,.row 121 [.ptr 2 0]),(nD,.row 40 (cells36 mx0))] nE):=by kernel_rfl
def pdQ (x y : Mx) (b : Bool) : St:=gSt 26 [(3,.ptr nA 0),(4,.ptr nB 0),(5,.ptr nC 0),(6,.ptr nD 0)] [(0,.row 57 [.val (.bool b)]),(1,.row 112 (cells13 x)),(2,.row 112 (cells13 y)),(nA,.row 55 [.ptr 0 0]),(nB,.row 121 [.ptr 1 0]),(nC,.row 121 [.ptr 2 0]),(nD,.row 40 (cells36 mx0))] nE
theorem pd1 : gRun Tryz.prog { gam:=gamN o } 26 pr1 (pdQ x y b) pdK (prT []) = some (.normal,prS [] (pdH x y b mx0 []) nF):=by kernel_rfl
theorem pd2 : gRun Tryz.prog { gam:=gamN o } 26 pr2 (prS [] (pdH x y b mx0 []) nF) pdK (prT [10]) = some (.normal,pdO 0 x y b mx0):=by kernel_rfl
def pdU_0 (x y : Mx) (b : Bool) (m : Mx) : St:=prS [(10,.val (.int .i64 0)),(11,.val (.bool true))] (pdH x y b m []) nF
theorem pda_0 : gRun Tryz.prog { gam:=gamN o } 26 pr3 (pdO 0 x y b m) pdK (prT [10,11]) = some (.normal,pdU_0 x y b m):=by kernel_rfl
theorem pdA_0 : gRun Tryz.prog { gam:=gamN o } 26 pr3b (pdU_0 x y b m) pdK (prT [10]) = some (.normal,pdO 0 x y b m):=by kernel_rfl
theorem pdb_0 : gRun Tryz.prog { gam:=gamN o } 26 pr4 (pdO 0 x y b m) (pdK ++ [nF]) (prT [8,10]) = some (.normal,pdJ 0 x y b m):=by kernel_rfl
theorem pdB_0 : gRun Tryz.prog { gam:=gamN o } 26 pr5 (pdJ 0 x y b m) (pdK ++ [nF]) (prT [8,10,13]) = some (.normal,pdI 0 0 x y b m):=by kernel_rfl
theorem pdm_0_0 : gCut Tryz.prog { gam:=gamN o } 26 prM (pdI 0 0 x y b m) nG (pdK ++ [nF]) (prT [8,10,13]) = some (.normal,pdI 0 1 x y (pmO o b (fun k=>x k 0) (fun k=>y k 0)).2 (setM m 0 0 (pmO o b (fun k=>x k 0) (fun k=>y k 0)).1)):=by kernel_rfl
theorem pdm_0_1 : gCut Tryz.prog { gam:=gamN o } 26 prM (pdI 0 1 x y b m) nG (pdK ++ [nF]) (prT [8,10,13]) = some (.normal,pdI 0 2 x y (pmO o b (fun k=>x k 0) (fun k=>y k 1)).2 (setM m 0 1 (pmO o b (fun k=>x k 0) (fun k=>y k 1)).1)):=by kernel_rfl
theorem pdm_0_2 : gCut Tryz.prog { gam:=gamN o } 26 prM (pdI 0 2 x y b m) nG (pdK ++ [nF]) (prT [8,10,13]) = some (.normal,pdI 0 3 x y (pmO o b (fun k=>x k 0) (fun k=>y k 2)).2 (setM m 0 2 (pmO o b (fun k=>x k 0) (fun k=>y k 2)).1)):=by kernel_rfl
theorem pdm_0_3 : gCut Tryz.prog { gam:=gamN o } 26 prM (pdI 0 3 x y b m) nG (pdK ++ [nF]) (prT [8,10,13]) = some (.normal,pdI 0 4 x y (pmO o b (fun k=>x k 0) (fun k=>y k 3)).2 (setM m 0 3 (pmO o b (fun k=>x k 0) (fun k=>y k 3)).1)):=by kernel_rfl
theorem pdm_0_4 : gCut Tryz.prog { gam:=gamN o } 26 prM (pdI 0 4 x y b m) nG (pdK ++ [nF]) (prT [8,10,13]) = some (.normal,pdI 0 5 x y (pmO o b (fun k=>x k 0) (fun k=>y k 4)).2 (setM m 0 4 (pmO o b (fun k=>x k 0) (fun k=>y k 4)).1)):=by kernel_rfl
theorem pdm_0_5 : gCut Tryz.prog { gam:=gamN o } 26 prM (pdI 0 5 x y b m) nG (pdK ++ [nF]) (prT [8,10,13]) = some (.normal,pdI 0 6 x y (pmO o b (fun k=>x k 0) (fun k=>y k 5)).2 (setM m 0 5 (pmO o b (fun k=>x k 0) (fun k=>y k 5)).1)):=by kernel_rfl
theorem pdm_0_6 : gCut Tryz.prog { gam:=gamN o } 26 prM (pdI 0 6 x y b m) nG (pdK ++ [nF]) (prT [8,10]) = some (.exit 2,pdJ 0 x y b m):=by kernel_rfl
theorem pdc_0 : gRun Tryz.prog { gam:=gamN o } 26 pr10 (pdJ 0 x y b m) pdK (prT [10]) = some (.normal,{ pdO 1 x y b m with lo:=nG }):=by kernel_rfl
theorem pdo_0 (j : Int) : okClean nG (pdI 0 j x y b m) = true:=by kernel_rfl
theorem pdp_0 : okClean nG (pdJ 0 x y b m) = true:=by kernel_rfl
def pdU_1 (x y : Mx) (b : Bool) (m : Mx) : St:=prS [(10,.val (.int .i64 1)),(11,.val (.bool true))] (pdH x y b m []) nF
theorem pda_1 : gRun Tryz.prog { gam:=gamN o } 26 pr3 (pdO 1 x y b m) pdK (prT [10,11]) = some (.normal,pdU_1 x y b m):=by kernel_rfl
theorem pdA_1 : gRun Tryz.prog { gam:=gamN o } 26 pr3b (pdU_1 x y b m) pdK (prT [10]) = some (.normal,pdO 1 x y b m):=by kernel_rfl
theorem pdb_1 : gRun Tryz.prog { gam:=gamN o } 26 pr4 (pdO 1 x y b m) (pdK ++ [nF]) (prT [8,10]) = some (.normal,pdJ 1 x y b m):=by kernel_rfl
theorem pdB_1 : gRun Tryz.prog { gam:=gamN o } 26 pr5 (pdJ 1 x y b m) (pdK ++ [nF]) (prT [8,10,13]) = some (.normal,pdI 1 0 x y b m):=by kernel_rfl
theorem pdm_1_0 : gCut Tryz.prog { gam:=gamN o } 26 prM (pdI 1 0 x y b m) nG (pdK ++ [nF]) (prT [8,10,13]) = some (.normal,pdI 1 1 x y (pmO o b (fun k=>x k 1) (fun k=>y k 0)).2 (setM m 1 0 (pmO o b (fun k=>x k 1) (fun k=>y k 0)).1)):=by kernel_rfl
theorem pdm_1_1 : gCut Tryz.prog { gam:=gamN o } 26 prM (pdI 1 1 x y b m) nG (pdK ++ [nF]) (prT [8,10,13]) = some (.normal,pdI 1 2 x y (pmO o b (fun k=>x k 1) (fun k=>y k 1)).2 (setM m 1 1 (pmO o b (fun k=>x k 1) (fun k=>y k 1)).1)):=by kernel_rfl
theorem pdm_1_2 : gCut Tryz.prog { gam:=gamN o } 26 prM (pdI 1 2 x y b m) nG (pdK ++ [nF]) (prT [8,10,13]) = some (.normal,pdI 1 3 x y (pmO o b (fun k=>x k 1) (fun k=>y k 2)).2 (setM m 1 2 (pmO o b (fun k=>x k 1) (fun k=>y k 2)).1)):=by kernel_rfl
theorem pdm_1_3 : gCut Tryz.prog { gam:=gamN o } 26 prM (pdI 1 3 x y b m) nG (pdK ++ [nF]) (prT [8,10,13]) = some (.normal,pdI 1 4 x y (pmO o b (fun k=>x k 1) (fun k=>y k 3)).2 (setM m 1 3 (pmO o b (fun k=>x k 1) (fun k=>y k 3)).1)):=by kernel_rfl
theorem pdm_1_4 : gCut Tryz.prog { gam:=gamN o } 26 prM (pdI 1 4 x y b m) nG (pdK ++ [nF]) (prT [8,10,13]) = some (.normal,pdI 1 5 x y (pmO o b (fun k=>x k 1) (fun k=>y k 4)).2 (setM m 1 4 (pmO o b (fun k=>x k 1) (fun k=>y k 4)).1)):=by kernel_rfl
theorem pdm_1_5 : gCut Tryz.prog { gam:=gamN o } 26 prM (pdI 1 5 x y b m) nG (pdK ++ [nF]) (prT [8,10,13]) = some (.normal,pdI 1 6 x y (pmO o b (fun k=>x k 1) (fun k=>y k 5)).2 (setM m 1 5 (pmO o b (fun k=>x k 1) (fun k=>y k 5)).1)):=by kernel_rfl
theorem pdm_1_6 : gCut Tryz.prog { gam:=gamN o } 26 prM (pdI 1 6 x y b m) nG (pdK ++ [nF]) (prT [8,10]) = some (.exit 2,pdJ 1 x y b m):=by kernel_rfl
theorem pdc_1 : gRun Tryz.prog { gam:=gamN o } 26 pr10 (pdJ 1 x y b m) pdK (prT [10]) = some (.normal,{ pdO 2 x y b m with lo:=nG }):=by kernel_rfl
theorem pdo_1 (j : Int) : okClean nG (pdI 1 j x y b m) = true:=by kernel_rfl
theorem pdp_1 : okClean nG (pdJ 1 x y b m) = true:=by kernel_rfl
def pdU_2 (x y : Mx) (b : Bool) (m : Mx) : St:=prS [(10,.val (.int .i64 2)),(11,.val (.bool true))] (pdH x y b m []) nF
theorem pda_2 : gRun Tryz.prog { gam:=gamN o } 26 pr3 (pdO 2 x y b m) pdK (prT [10,11]) = some (.normal,pdU_2 x y b m):=by kernel_rfl
theorem pdA_2 : gRun Tryz.prog { gam:=gamN o } 26 pr3b (pdU_2 x y b m) pdK (prT [10]) = some (.normal,pdO 2 x y b m):=by kernel_rfl
theorem pdb_2 : gRun Tryz.prog { gam:=gamN o } 26 pr4 (pdO 2 x y b m) (pdK ++ [nF]) (prT [8,10]) = some (.normal,pdJ 2 x y b m):=by kernel_rfl
theorem pdB_2 : gRun Tryz.prog { gam:=gamN o } 26 pr5 (pdJ 2 x y b m) (pdK ++ [nF]) (prT [8,10,13]) = some (.normal,pdI 2 0 x y b m):=by kernel_rfl
theorem pdm_2_0 : gCut Tryz.prog { gam:=gamN o } 26 prM (pdI 2 0 x y b m) nG (pdK ++ [nF]) (prT [8,10,13]) = some (.normal,pdI 2 1 x y (pmO o b (fun k=>x k 2) (fun k=>y k 0)).2 (setM m 2 0 (pmO o b (fun k=>x k 2) (fun k=>y k 0)).1)):=by kernel_rfl
theorem pdm_2_1 : gCut Tryz.prog { gam:=gamN o } 26 prM (pdI 2 1 x y b m) nG (pdK ++ [nF]) (prT [8,10,13]) = some (.normal,pdI 2 2 x y (pmO o b (fun k=>x k 2) (fun k=>y k 1)).2 (setM m 2 1 (pmO o b (fun k=>x k 2) (fun k=>y k 1)).1)):=by kernel_rfl
theorem pdm_2_2 : gCut Tryz.prog { gam:=gamN o } 26 prM (pdI 2 2 x y b m) nG (pdK ++ [nF]) (prT [8,10,13]) = some (.normal,pdI 2 3 x y (pmO o b (fun k=>x k 2) (fun k=>y k 2)).2 (setM m 2 2 (pmO o b (fun k=>x k 2) (fun k=>y k 2)).1)):=by kernel_rfl
theorem pdm_2_3 : gCut Tryz.prog { gam:=gamN o } 26 prM (pdI 2 3 x y b m) nG (pdK ++ [nF]) (prT [8,10,13]) = some (.normal,pdI 2 4 x y (pmO o b (fun k=>x k 2) (fun k=>y k 3)).2 (setM m 2 3 (pmO o b (fun k=>x k 2) (fun k=>y k 3)).1)):=by kernel_rfl
theorem pdm_2_4 : gCut Tryz.prog { gam:=gamN o } 26 prM (pdI 2 4 x y b m) nG (pdK ++ [nF]) (prT [8,10,13]) = some (.normal,pdI 2 5 x y (pmO o b (fun k=>x k 2) (fun k=>y k 4)).2 (setM m 2 4 (pmO o b (fun k=>x k 2) (fun k=>y k 4)).1)):=by kernel_rfl
theorem pdm_2_5 : gCut Tryz.prog { gam:=gamN o } 26 prM (pdI 2 5 x y b m) nG (pdK ++ [nF]) (prT [8,10,13]) = some (.normal,pdI 2 6 x y (pmO o b (fun k=>x k 2) (fun k=>y k 5)).2 (setM m 2 5 (pmO o b (fun k=>x k 2) (fun k=>y k 5)).1)):=by kernel_rfl
theorem pdm_2_6 : gCut Tryz.prog { gam:=gamN o } 26 prM (pdI 2 6 x y b m) nG (pdK ++ [nF]) (prT [8,10]) = some (.exit 2,pdJ 2 x y b m):=by kernel_rfl
theorem pdc_2 : gRun Tryz.prog { gam:=gamN o } 26 pr10 (pdJ 2 x y b m) pdK (prT [10]) = some (.normal,{ pdO 3 x y b m with lo:=nG }):=by kernel_rfl
theorem pdo_2 (j : Int) : okClean nG (pdI 2 j x y b m) = true:=by kernel_rfl
theorem pdp_2 : okClean nG (pdJ 2 x y b m) = true:=by kernel_rfl
def pdU_3 (x y : Mx) (b : Bool) (m : Mx) : St:=prS [(10,.val (.int .i64 3)),(11,.val (.bool true))] (pdH x y b m []) nF
theorem pda_3 : gRun Tryz.prog { gam:=gamN o } 26 pr3 (pdO 3 x y b m) pdK (prT [10,11]) = some (.normal,pdU_3 x y b m):=by kernel_rfl
theorem pdA_3 : gRun Tryz.prog { gam:=gamN o } 26 pr3b (pdU_3 x y b m) pdK (prT [10]) = some (.normal,pdO 3 x y b m):=by kernel_rfl
theorem pdb_3 : gRun Tryz.prog { gam:=gamN o } 26 pr4 (pdO 3 x y b m) (pdK ++ [nF]) (prT [8,10]) = some (.normal,pdJ 3 x y b m):=by kernel_rfl
theorem pdB_3 : gRun Tryz.prog { gam:=gamN o } 26 pr5 (pdJ 3 x y b m) (pdK ++ [nF]) (prT [8,10,13]) = some (.normal,pdI 3 0 x y b m):=by kernel_rfl
theorem pdm_3_0 : gCut Tryz.prog { gam:=gamN o } 26 prM (pdI 3 0 x y b m) nG (pdK ++ [nF]) (prT [8,10,13]) = some (.normal,pdI 3 1 x y (pmO o b (fun k=>x k 3) (fun k=>y k 0)).2 (setM m 3 0 (pmO o b (fun k=>x k 3) (fun k=>y k 0)).1)):=by kernel_rfl
theorem pdm_3_1 : gCut Tryz.prog { gam:=gamN o } 26 prM (pdI 3 1 x y b m) nG (pdK ++ [nF]) (prT [8,10,13]) = some (.normal,pdI 3 2 x y (pmO o b (fun k=>x k 3) (fun k=>y k 1)).2 (setM m 3 1 (pmO o b (fun k=>x k 3) (fun k=>y k 1)).1)):=by kernel_rfl
theorem pdm_3_2 : gCut Tryz.prog { gam:=gamN o } 26 prM (pdI 3 2 x y b m) nG (pdK ++ [nF]) (prT [8,10,13]) = some (.normal,pdI 3 3 x y (pmO o b (fun k=>x k 3) (fun k=>y k 2)).2 (setM m 3 2 (pmO o b (fun k=>x k 3) (fun k=>y k 2)).1)):=by kernel_rfl
theorem pdm_3_3 : gCut Tryz.prog { gam:=gamN o } 26 prM (pdI 3 3 x y b m) nG (pdK ++ [nF]) (prT [8,10,13]) = some (.normal,pdI 3 4 x y (pmO o b (fun k=>x k 3) (fun k=>y k 3)).2 (setM m 3 3 (pmO o b (fun k=>x k 3) (fun k=>y k 3)).1)):=by kernel_rfl
theorem pdm_3_4 : gCut Tryz.prog { gam:=gamN o } 26 prM (pdI 3 4 x y b m) nG (pdK ++ [nF]) (prT [8,10,13]) = some (.normal,pdI 3 5 x y (pmO o b (fun k=>x k 3) (fun k=>y k 4)).2 (setM m 3 4 (pmO o b (fun k=>x k 3) (fun k=>y k 4)).1)):=by kernel_rfl
theorem pdm_3_5 : gCut Tryz.prog { gam:=gamN o } 26 prM (pdI 3 5 x y b m) nG (pdK ++ [nF]) (prT [8,10,13]) = some (.normal,pdI 3 6 x y (pmO o b (fun k=>x k 3) (fun k=>y k 5)).2 (setM m 3 5 (pmO o b (fun k=>x k 3) (fun k=>y k 5)).1)):=by kernel_rfl
theorem pdm_3_6 : gCut Tryz.prog { gam:=gamN o } 26 prM (pdI 3 6 x y b m) nG (pdK ++ [nF]) (prT [8,10]) = some (.exit 2,pdJ 3 x y b m):=by kernel_rfl
theorem pdc_3 : gRun Tryz.prog { gam:=gamN o } 26 pr10 (pdJ 3 x y b m) pdK (prT [10]) = some (.normal,{ pdO 4 x y b m with lo:=nG }):=by kernel_rfl
theorem pdo_3 (j : Int) : okClean nG (pdI 3 j x y b m) = true:=by kernel_rfl
theorem pdp_3 : okClean nG (pdJ 3 x y b m) = true:=by kernel_rfl
def pdU_4 (x y : Mx) (b : Bool) (m : Mx) : St:=prS [(10,.val (.int .i64 4)),(11,.val (.bool true))] (pdH x y b m []) nF
theorem pda_4 : gRun Tryz.prog { gam:=gamN o } 26 pr3 (pdO 4 x y b m) pdK (prT [10,11]) = some (.normal,pdU_4 x y b m):=by kernel_rfl
theorem pdA_4 : gRun Tryz.prog { gam:=gamN o } 26 pr3b (pdU_4 x y b m) pdK (prT [10]) = some (.normal,pdO 4 x y b m):=by kernel_rfl
theorem pdb_4 : gRun Tryz.prog { gam:=gamN o } 26 pr4 (pdO 4 x y b m) (pdK ++ [nF]) (prT [8,10]) = some (.normal,pdJ 4 x y b m):=by kernel_rfl
theorem pdB_4 : gRun Tryz.prog { gam:=gamN o } 26 pr5 (pdJ 4 x y b m) (pdK ++ [nF]) (prT [8,10,13]) = some (.normal,pdI 4 0 x y b m):=by kernel_rfl
theorem pdm_4_0 : gCut Tryz.prog { gam:=gamN o } 26 prM (pdI 4 0 x y b m) nG (pdK ++ [nF]) (prT [8,10,13]) = some (.normal,pdI 4 1 x y (pmO o b (fun k=>x k 4) (fun k=>y k 0)).2 (setM m 4 0 (pmO o b (fun k=>x k 4) (fun k=>y k 0)).1)):=by kernel_rfl
theorem pdm_4_1 : gCut Tryz.prog { gam:=gamN o } 26 prM (pdI 4 1 x y b m) nG (pdK ++ [nF]) (prT [8,10,13]) = some (.normal,pdI 4 2 x y (pmO o b (fun k=>x k 4) (fun k=>y k 1)).2 (setM m 4 1 (pmO o b (fun k=>x k 4) (fun k=>y k 1)).1)):=by kernel_rfl
theorem pdm_4_2 : gCut Tryz.prog { gam:=gamN o } 26 prM (pdI 4 2 x y b m) nG (pdK ++ [nF]) (prT [8,10,13]) = some (.normal,pdI 4 3 x y (pmO o b (fun k=>x k 4) (fun k=>y k 2)).2 (setM m 4 2 (pmO o b (fun k=>x k 4) (fun k=>y k 2)).1)):=by kernel_rfl
theorem pdm_4_3 : gCut Tryz.prog { gam:=gamN o } 26 prM (pdI 4 3 x y b m) nG (pdK ++ [nF]) (prT [8,10,13]) = some (.normal,pdI 4 4 x y (pmO o b (fun k=>x k 4) (fun k=>y k 3)).2 (setM m 4 3 (pmO o b (fun k=>x k 4) (fun k=>y k 3)).1)):=by kernel_rfl
theorem pdm_4_4 : gCut Tryz.prog { gam:=gamN o } 26 prM (pdI 4 4 x y b m) nG (pdK ++ [nF]) (prT [8,10,13]) = some (.normal,pdI 4 5 x y (pmO o b (fun k=>x k 4) (fun k=>y k 4)).2 (setM m 4 4 (pmO o b (fun k=>x k 4) (fun k=>y k 4)).1)):=by kernel_rfl
theorem pdm_4_5 : gCut Tryz.prog { gam:=gamN o } 26 prM (pdI 4 5 x y b m) nG (pdK ++ [nF]) (prT [8,10,13]) = some (.normal,pdI 4 6 x y (pmO o b (fun k=>x k 4) (fun k=>y k 5)).2 (setM m 4 5 (pmO o b (fun k=>x k 4) (fun k=>y k 5)).1)):=by kernel_rfl
theorem pdm_4_6 : gCut Tryz.prog { gam:=gamN o } 26 prM (pdI 4 6 x y b m) nG (pdK ++ [nF]) (prT [8,10]) = some (.exit 2,pdJ 4 x y b m):=by kernel_rfl
theorem pdc_4 : gRun Tryz.prog { gam:=gamN o } 26 pr10 (pdJ 4 x y b m) pdK (prT [10]) = some (.normal,{ pdO 5 x y b m with lo:=nG }):=by kernel_rfl
theorem pdo_4 (j : Int) : okClean nG (pdI 4 j x y b m) = true:=by kernel_rfl
theorem pdp_4 : okClean nG (pdJ 4 x y b m) = true:=by kernel_rfl
def pdU_5 (x y : Mx) (b : Bool) (m : Mx) : St:=prS [(10,.val (.int .i64 5)),(11,.val (.bool true))] (pdH x y b m []) nF
theorem pda_5 : gRun Tryz.prog { gam:=gamN o } 26 pr3 (pdO 5 x y b m) pdK (prT [10,11]) = some (.normal,pdU_5 x y b m):=by kernel_rfl
theorem pdA_5 : gRun Tryz.prog { gam:=gamN o } 26 pr3b (pdU_5 x y b m) pdK (prT [10]) = some (.normal,pdO 5 x y b m):=by kernel_rfl
theorem pdb_5 : gRun Tryz.prog { gam:=gamN o } 26 pr4 (pdO 5 x y b m) (pdK ++ [nF]) (prT [8,10]) = some (.normal,pdJ 5 x y b m):=by kernel_rfl
theorem pdB_5 : gRun Tryz.prog { gam:=gamN o } 26 pr5 (pdJ 5 x y b m) (pdK ++ [nF]) (prT [8,10,13]) = some (.normal,pdI 5 0 x y b m):=by kernel_rfl
theorem pdm_5_0 : gCut Tryz.prog { gam:=gamN o } 26 prM (pdI 5 0 x y b m) nG (pdK ++ [nF]) (prT [8,10,13]) = some (.normal,pdI 5 1 x y (pmO o b (fun k=>x k 5) (fun k=>y k 0)).2 (setM m 5 0 (pmO o b (fun k=>x k 5) (fun k=>y k 0)).1)):=by kernel_rfl
theorem pdm_5_1 : gCut Tryz.prog { gam:=gamN o } 26 prM (pdI 5 1 x y b m) nG (pdK ++ [nF]) (prT [8,10,13]) = some (.normal,pdI 5 2 x y (pmO o b (fun k=>x k 5) (fun k=>y k 1)).2 (setM m 5 1 (pmO o b (fun k=>x k 5) (fun k=>y k 1)).1)):=by kernel_rfl
theorem pdm_5_2 : gCut Tryz.prog { gam:=gamN o } 26 prM (pdI 5 2 x y b m) nG (pdK ++ [nF]) (prT [8,10,13]) = some (.normal,pdI 5 3 x y (pmO o b (fun k=>x k 5) (fun k=>y k 2)).2 (setM m 5 2 (pmO o b (fun k=>x k 5) (fun k=>y k 2)).1)):=by kernel_rfl
theorem pdm_5_3 : gCut Tryz.prog { gam:=gamN o } 26 prM (pdI 5 3 x y b m) nG (pdK ++ [nF]) (prT [8,10,13]) = some (.normal,pdI 5 4 x y (pmO o b (fun k=>x k 5) (fun k=>y k 3)).2 (setM m 5 3 (pmO o b (fun k=>x k 5) (fun k=>y k 3)).1)):=by kernel_rfl
theorem pdm_5_4 : gCut Tryz.prog { gam:=gamN o } 26 prM (pdI 5 4 x y b m) nG (pdK ++ [nF]) (prT [8,10,13]) = some (.normal,pdI 5 5 x y (pmO o b (fun k=>x k 5) (fun k=>y k 4)).2 (setM m 5 4 (pmO o b (fun k=>x k 5) (fun k=>y k 4)).1)):=by kernel_rfl
theorem pdm_5_5 : gCut Tryz.prog { gam:=gamN o } 26 prM (pdI 5 5 x y b m) nG (pdK ++ [nF]) (prT [8,10,13]) = some (.normal,pdI 5 6 x y (pmO o b (fun k=>x k 5) (fun k=>y k 5)).2 (setM m 5 5 (pmO o b (fun k=>x k 5) (fun k=>y k 5)).1)):=by kernel_rfl
theorem pdm_5_6 : gCut Tryz.prog { gam:=gamN o } 26 prM (pdI 5 6 x y b m) nG (pdK ++ [nF]) (prT [8,10]) = some (.exit 2,pdJ 5 x y b m):=by kernel_rfl
theorem pdc_5 : gRun Tryz.prog { gam:=gamN o } 26 pr10 (pdJ 5 x y b m) pdK (prT [10]) = some (.normal,{ pdO 6 x y b m with lo:=nG }):=by kernel_rfl
theorem pdo_5 (j : Int) : okClean nG (pdI 5 j x y b m) = true:=by kernel_rfl
theorem pdp_5 : okClean nG (pdJ 5 x y b m) = true:=by kernel_rfl
theorem pdW_0 : okClean nF ({ pdO 1 x y b m with lo:=nG } : St) = true:=by kernel_rfl
theorem pdW_1 : okClean nF ({ pdO 2 x y b m with lo:=nG } : St) = true:=by kernel_rfl
theorem pdW_2 : okClean nF ({ pdO 3 x y b m with lo:=nG } : St) = true:=by kernel_rfl
theorem pdW_3 : okClean nF ({ pdO 4 x y b m with lo:=nG } : St) = true:=by kernel_rfl
theorem pdW_4 : okClean nF ({ pdO 5 x y b m with lo:=nG } : St) = true:=by kernel_rfl
theorem pdW_5 : okClean nF ({ pdO 6 x y b m with lo:=nG } : St) = true:=by kernel_rfl
theorem pdx : gCut Tryz.prog { gam:=gamN o } 26 prL (pdO 6 x y b m) nF pdK (prT []) = some (.exit 0,prS [] (pdH x y b m []) nF):=by kernel_rfl
theorem pdy : okClean nF (prS [] (pdH x y b m []) nF) = true:=by kernel_rfl
theorem pde : gRun Tryz.prog { gam:=gamN o } 26 prE (prS [] (pdH x y b m []) nF) [0,1,2,nD] [6] = some (.ret,pdF x y b m):=by kernel_rfl
theorem pdr : resA Tryz.prog (pdF x y b m) Tryz.f58.results.toList = some [.val (Cod.enc (M6.of m))]:=by kernel_rfl
end
section
variable {o : Ops} (hG : GamOk Tryz.prog ({ gam:=gamN o } : Env).gam) (x y m : Mx) (b : Bool)
include hG
omit hG in
theorem pdlo (i j : Int) : (pdI i j x y b m).lo = nG:=rfl
omit hG in
theorem pdlo1 (i : Int) : (pdO i x y b m).lo = nF:=rfl
theorem pdM_0_0 : RunsTo Tryz.prog 26 prM (pdI 0 0 x y b m) .normal (pdI 0 1 x y (pmO o b (fun k=>x k 0) (fun k=>y k 0)).2 (setM m 0 0 (pmO o b (fun k=>x k 0) (fun k=>y k 0)).1)):=gCut_runs hG (pdm_0_0 o x y m b) (pdlo ..) (pdo_0 ..) rfl
theorem pdM_0_1 : RunsTo Tryz.prog 26 prM (pdI 0 1 x y b m) .normal (pdI 0 2 x y (pmO o b (fun k=>x k 0) (fun k=>y k 1)).2 (setM m 0 1 (pmO o b (fun k=>x k 0) (fun k=>y k 1)).1)):=gCut_runs hG (pdm_0_1 o x y m b) (pdlo ..) (pdo_0 ..) rfl
theorem pdM_0_2 : RunsTo Tryz.prog 26 prM (pdI 0 2 x y b m) .normal (pdI 0 3 x y (pmO o b (fun k=>x k 0) (fun k=>y k 2)).2 (setM m 0 2 (pmO o b (fun k=>x k 0) (fun k=>y k 2)).1)):=gCut_runs hG (pdm_0_2 o x y m b) (pdlo ..) (pdo_0 ..) rfl
theorem pdM_0_3 : RunsTo Tryz.prog 26 prM (pdI 0 3 x y b m) .normal (pdI 0 4 x y (pmO o b (fun k=>x k 0) (fun k=>y k 3)).2 (setM m 0 3 (pmO o b (fun k=>x k 0) (fun k=>y k 3)).1)):=gCut_runs hG (pdm_0_3 o x y m b) (pdlo ..) (pdo_0 ..) rfl
theorem pdM_0_4 : RunsTo Tryz.prog 26 prM (pdI 0 4 x y b m) .normal (pdI 0 5 x y (pmO o b (fun k=>x k 0) (fun k=>y k 4)).2 (setM m 0 4 (pmO o b (fun k=>x k 0) (fun k=>y k 4)).1)):=gCut_runs hG (pdm_0_4 o x y m b) (pdlo ..) (pdo_0 ..) rfl
theorem pdM_0_5 : RunsTo Tryz.prog 26 prM (pdI 0 5 x y b m) .normal (pdI 0 6 x y (pmO o b (fun k=>x k 0) (fun k=>y k 5)).2 (setM m 0 5 (pmO o b (fun k=>x k 0) (fun k=>y k 5)).1)):=gCut_runs hG (pdm_0_5 o x y m b) (pdlo ..) (pdo_0 ..) rfl
theorem pdM_0_6 : RunsTo Tryz.prog 26 prM (pdI 0 6 x y b m) (.exit 2) (pdJ 0 x y b m):=gCut_runs hG (pdm_0_6 o x y m b) (pdlo ..) (pdp_0 ..) rfl
theorem pdN_0 : RunsTo Tryz.prog 26 (.block 2 (.loop prM)) (pdI 0 0 x y b m) .normal (pdJ 0 x y (prI_F o x y 0 (m,b)).2 (prI_F o x y 0 (m,b)).1) :=
  RunsTo.rounds (P:=Tryz.prog) (N:=26) (c:=prM) (id:=2) 6 (fun j z=>pdI 0 j x y z.2 z.1) (fun z=>pdJ 0 x y z.2 z.1) (prJ_F o x y 0)
    (fun j z hj=>match j,hj with
      | 0,_=>pdM_0_0 hG x y z.1 z.2
      | 1,_=>pdM_0_1 hG x y z.1 z.2
      | 2,_=>pdM_0_2 hG x y z.1 z.2
      | 3,_=>pdM_0_3 hG x y z.1 z.2
      | 4,_=>pdM_0_4 hG x y z.1 z.2
      | 5,_=>pdM_0_5 hG x y z.1 z.2
      | n + 6,h=>absurd h (by omega))
    (fun z=>pdM_0_6 hG x y z.1 z.2) (m,b)
theorem pdR_0 : RunsTo Tryz.prog 26 prL (pdO 0 x y b m) .normal (pdO 1 x y (prI_F o x y 0 (m,b)).2 (prI_F o x y 0 (m,b)).1):=by
  rw [prL_is]
  have h:=(gRun_runs hG (pdb_0 o x y m b)).seq ((gRun_runs hG (pdB_0 o x y m b)).seq (pdN_0 hG x y m b))
  generalize prI_F o x y 0 (m,b) = z at h ⊢
  exact ((gRun_runs hG (pda_0 o x y m b)).seq ((gRun_runs hG (pdA_0 o x y m b)).seq ((h.block (.inl rfl)).seq (gRun_runs hG (pdc_0 o x y z.1 z.2))))).freed (pdlo1 ..) (pdW_0 ..) rfl
theorem pdM_1_0 : RunsTo Tryz.prog 26 prM (pdI 1 0 x y b m) .normal (pdI 1 1 x y (pmO o b (fun k=>x k 1) (fun k=>y k 0)).2 (setM m 1 0 (pmO o b (fun k=>x k 1) (fun k=>y k 0)).1)):=gCut_runs hG (pdm_1_0 o x y m b) (pdlo ..) (pdo_1 ..) rfl
theorem pdM_1_1 : RunsTo Tryz.prog 26 prM (pdI 1 1 x y b m) .normal (pdI 1 2 x y (pmO o b (fun k=>x k 1) (fun k=>y k 1)).2 (setM m 1 1 (pmO o b (fun k=>x k 1) (fun k=>y k 1)).1)):=gCut_runs hG (pdm_1_1 o x y m b) (pdlo ..) (pdo_1 ..) rfl
theorem pdM_1_2 : RunsTo Tryz.prog 26 prM (pdI 1 2 x y b m) .normal (pdI 1 3 x y (pmO o b (fun k=>x k 1) (fun k=>y k 2)).2 (setM m 1 2 (pmO o b (fun k=>x k 1) (fun k=>y k 2)).1)):=gCut_runs hG (pdm_1_2 o x y m b) (pdlo ..) (pdo_1 ..) rfl
theorem pdM_1_3 : RunsTo Tryz.prog 26 prM (pdI 1 3 x y b m) .normal (pdI 1 4 x y (pmO o b (fun k=>x k 1) (fun k=>y k 3)).2 (setM m 1 3 (pmO o b (fun k=>x k 1) (fun k=>y k 3)).1)):=gCut_runs hG (pdm_1_3 o x y m b) (pdlo ..) (pdo_1 ..) rfl
theorem pdM_1_4 : RunsTo Tryz.prog 26 prM (pdI 1 4 x y b m) .normal (pdI 1 5 x y (pmO o b (fun k=>x k 1) (fun k=>y k 4)).2 (setM m 1 4 (pmO o b (fun k=>x k 1) (fun k=>y k 4)).1)):=gCut_runs hG (pdm_1_4 o x y m b) (pdlo ..) (pdo_1 ..) rfl
theorem pdM_1_5 : RunsTo Tryz.prog 26 prM (pdI 1 5 x y b m) .normal (pdI 1 6 x y (pmO o b (fun k=>x k 1) (fun k=>y k 5)).2 (setM m 1 5 (pmO o b (fun k=>x k 1) (fun k=>y k 5)).1)):=gCut_runs hG (pdm_1_5 o x y m b) (pdlo ..) (pdo_1 ..) rfl
theorem pdM_1_6 : RunsTo Tryz.prog 26 prM (pdI 1 6 x y b m) (.exit 2) (pdJ 1 x y b m):=gCut_runs hG (pdm_1_6 o x y m b) (pdlo ..) (pdp_1 ..) rfl
theorem pdN_1 : RunsTo Tryz.prog 26 (.block 2 (.loop prM)) (pdI 1 0 x y b m) .normal (pdJ 1 x y (prI_F o x y 1 (m,b)).2 (prI_F o x y 1 (m,b)).1) :=
  RunsTo.rounds (P:=Tryz.prog) (N:=26) (c:=prM) (id:=2) 6 (fun j z=>pdI 1 j x y z.2 z.1) (fun z=>pdJ 1 x y z.2 z.1) (prJ_F o x y 1)
    (fun j z hj=>match j,hj with
      | 0,_=>pdM_1_0 hG x y z.1 z.2
      | 1,_=>pdM_1_1 hG x y z.1 z.2
      | 2,_=>pdM_1_2 hG x y z.1 z.2
      | 3,_=>pdM_1_3 hG x y z.1 z.2
      | 4,_=>pdM_1_4 hG x y z.1 z.2
      | 5,_=>pdM_1_5 hG x y z.1 z.2
      | n + 6,h=>absurd h (by omega))
    (fun z=>pdM_1_6 hG x y z.1 z.2) (m,b)
theorem pdR_1 : RunsTo Tryz.prog 26 prL (pdO 1 x y b m) .normal (pdO 2 x y (prI_F o x y 1 (m,b)).2 (prI_F o x y 1 (m,b)).1):=by
  rw [prL_is]
  have h:=(gRun_runs hG (pdb_1 o x y m b)).seq ((gRun_runs hG (pdB_1 o x y m b)).seq (pdN_1 hG x y m b))
  generalize prI_F o x y 1 (m,b) = z at h ⊢
  exact ((gRun_runs hG (pda_1 o x y m b)).seq ((gRun_runs hG (pdA_1 o x y m b)).seq ((h.block (.inl rfl)).seq (gRun_runs hG (pdc_1 o x y z.1 z.2))))).freed (pdlo1 ..) (pdW_1 ..) rfl
theorem pdM_2_0 : RunsTo Tryz.prog 26 prM (pdI 2 0 x y b m) .normal (pdI 2 1 x y (pmO o b (fun k=>x k 2) (fun k=>y k 0)).2 (setM m 2 0 (pmO o b (fun k=>x k 2) (fun k=>y k 0)).1)):=gCut_runs hG (pdm_2_0 o x y m b) (pdlo ..) (pdo_2 ..) rfl
theorem pdM_2_1 : RunsTo Tryz.prog 26 prM (pdI 2 1 x y b m) .normal (pdI 2 2 x y (pmO o b (fun k=>x k 2) (fun k=>y k 1)).2 (setM m 2 1 (pmO o b (fun k=>x k 2) (fun k=>y k 1)).1)):=gCut_runs hG (pdm_2_1 o x y m b) (pdlo ..) (pdo_2 ..) rfl
theorem pdM_2_2 : RunsTo Tryz.prog 26 prM (pdI 2 2 x y b m) .normal (pdI 2 3 x y (pmO o b (fun k=>x k 2) (fun k=>y k 2)).2 (setM m 2 2 (pmO o b (fun k=>x k 2) (fun k=>y k 2)).1)):=gCut_runs hG (pdm_2_2 o x y m b) (pdlo ..) (pdo_2 ..) rfl
theorem pdM_2_3 : RunsTo Tryz.prog 26 prM (pdI 2 3 x y b m) .normal (pdI 2 4 x y (pmO o b (fun k=>x k 2) (fun k=>y k 3)).2 (setM m 2 3 (pmO o b (fun k=>x k 2) (fun k=>y k 3)).1)):=gCut_runs hG (pdm_2_3 o x y m b) (pdlo ..) (pdo_2 ..) rfl
theorem pdM_2_4 : RunsTo Tryz.prog 26 prM (pdI 2 4 x y b m) .normal (pdI 2 5 x y (pmO o b (fun k=>x k 2) (fun k=>y k 4)).2 (setM m 2 4 (pmO o b (fun k=>x k 2) (fun k=>y k 4)).1)):=gCut_runs hG (pdm_2_4 o x y m b) (pdlo ..) (pdo_2 ..) rfl
theorem pdM_2_5 : RunsTo Tryz.prog 26 prM (pdI 2 5 x y b m) .normal (pdI 2 6 x y (pmO o b (fun k=>x k 2) (fun k=>y k 5)).2 (setM m 2 5 (pmO o b (fun k=>x k 2) (fun k=>y k 5)).1)):=gCut_runs hG (pdm_2_5 o x y m b) (pdlo ..) (pdo_2 ..) rfl
theorem pdM_2_6 : RunsTo Tryz.prog 26 prM (pdI 2 6 x y b m) (.exit 2) (pdJ 2 x y b m):=gCut_runs hG (pdm_2_6 o x y m b) (pdlo ..) (pdp_2 ..) rfl
theorem pdN_2 : RunsTo Tryz.prog 26 (.block 2 (.loop prM)) (pdI 2 0 x y b m) .normal (pdJ 2 x y (prI_F o x y 2 (m,b)).2 (prI_F o x y 2 (m,b)).1) :=
  RunsTo.rounds (P:=Tryz.prog) (N:=26) (c:=prM) (id:=2) 6 (fun j z=>pdI 2 j x y z.2 z.1) (fun z=>pdJ 2 x y z.2 z.1) (prJ_F o x y 2)
    (fun j z hj=>match j,hj with
      | 0,_=>pdM_2_0 hG x y z.1 z.2
      | 1,_=>pdM_2_1 hG x y z.1 z.2
      | 2,_=>pdM_2_2 hG x y z.1 z.2
      | 3,_=>pdM_2_3 hG x y z.1 z.2
      | 4,_=>pdM_2_4 hG x y z.1 z.2
      | 5,_=>pdM_2_5 hG x y z.1 z.2
      | n + 6,h=>absurd h (by omega))
    (fun z=>pdM_2_6 hG x y z.1 z.2) (m,b)
theorem pdR_2 : RunsTo Tryz.prog 26 prL (pdO 2 x y b m) .normal (pdO 3 x y (prI_F o x y 2 (m,b)).2 (prI_F o x y 2 (m,b)).1):=by
  rw [prL_is]
  have h:=(gRun_runs hG (pdb_2 o x y m b)).seq ((gRun_runs hG (pdB_2 o x y m b)).seq (pdN_2 hG x y m b))
  generalize prI_F o x y 2 (m,b) = z at h ⊢
  exact ((gRun_runs hG (pda_2 o x y m b)).seq ((gRun_runs hG (pdA_2 o x y m b)).seq ((h.block (.inl rfl)).seq (gRun_runs hG (pdc_2 o x y z.1 z.2))))).freed (pdlo1 ..) (pdW_2 ..) rfl
theorem pdM_3_0 : RunsTo Tryz.prog 26 prM (pdI 3 0 x y b m) .normal (pdI 3 1 x y (pmO o b (fun k=>x k 3) (fun k=>y k 0)).2 (setM m 3 0 (pmO o b (fun k=>x k 3) (fun k=>y k 0)).1)):=gCut_runs hG (pdm_3_0 o x y m b) (pdlo ..) (pdo_3 ..) rfl
theorem pdM_3_1 : RunsTo Tryz.prog 26 prM (pdI 3 1 x y b m) .normal (pdI 3 2 x y (pmO o b (fun k=>x k 3) (fun k=>y k 1)).2 (setM m 3 1 (pmO o b (fun k=>x k 3) (fun k=>y k 1)).1)):=gCut_runs hG (pdm_3_1 o x y m b) (pdlo ..) (pdo_3 ..) rfl
theorem pdM_3_2 : RunsTo Tryz.prog 26 prM (pdI 3 2 x y b m) .normal (pdI 3 3 x y (pmO o b (fun k=>x k 3) (fun k=>y k 2)).2 (setM m 3 2 (pmO o b (fun k=>x k 3) (fun k=>y k 2)).1)):=gCut_runs hG (pdm_3_2 o x y m b) (pdlo ..) (pdo_3 ..) rfl
theorem pdM_3_3 : RunsTo Tryz.prog 26 prM (pdI 3 3 x y b m) .normal (pdI 3 4 x y (pmO o b (fun k=>x k 3) (fun k=>y k 3)).2 (setM m 3 3 (pmO o b (fun k=>x k 3) (fun k=>y k 3)).1)):=gCut_runs hG (pdm_3_3 o x y m b) (pdlo ..) (pdo_3 ..) rfl
theorem pdM_3_4 : RunsTo Tryz.prog 26 prM (pdI 3 4 x y b m) .normal (pdI 3 5 x y (pmO o b (fun k=>x k 3) (fun k=>y k 4)).2 (setM m 3 4 (pmO o b (fun k=>x k 3) (fun k=>y k 4)).1)):=gCut_runs hG (pdm_3_4 o x y m b) (pdlo ..) (pdo_3 ..) rfl
theorem pdM_3_5 : RunsTo Tryz.prog 26 prM (pdI 3 5 x y b m) .normal (pdI 3 6 x y (pmO o b (fun k=>x k 3) (fun k=>y k 5)).2 (setM m 3 5 (pmO o b (fun k=>x k 3) (fun k=>y k 5)).1)):=gCut_runs hG (pdm_3_5 o x y m b) (pdlo ..) (pdo_3 ..) rfl
theorem pdM_3_6 : RunsTo Tryz.prog 26 prM (pdI 3 6 x y b m) (.exit 2) (pdJ 3 x y b m):=gCut_runs hG (pdm_3_6 o x y m b) (pdlo ..) (pdp_3 ..) rfl
theorem pdN_3 : RunsTo Tryz.prog 26 (.block 2 (.loop prM)) (pdI 3 0 x y b m) .normal (pdJ 3 x y (prI_F o x y 3 (m,b)).2 (prI_F o x y 3 (m,b)).1) :=
  RunsTo.rounds (P:=Tryz.prog) (N:=26) (c:=prM) (id:=2) 6 (fun j z=>pdI 3 j x y z.2 z.1) (fun z=>pdJ 3 x y z.2 z.1) (prJ_F o x y 3)
    (fun j z hj=>match j,hj with
      | 0,_=>pdM_3_0 hG x y z.1 z.2
      | 1,_=>pdM_3_1 hG x y z.1 z.2
      | 2,_=>pdM_3_2 hG x y z.1 z.2
      | 3,_=>pdM_3_3 hG x y z.1 z.2
      | 4,_=>pdM_3_4 hG x y z.1 z.2
      | 5,_=>pdM_3_5 hG x y z.1 z.2
      | n + 6,h=>absurd h (by omega))
    (fun z=>pdM_3_6 hG x y z.1 z.2) (m,b)
theorem pdR_3 : RunsTo Tryz.prog 26 prL (pdO 3 x y b m) .normal (pdO 4 x y (prI_F o x y 3 (m,b)).2 (prI_F o x y 3 (m,b)).1):=by
  rw [prL_is]
  have h:=(gRun_runs hG (pdb_3 o x y m b)).seq ((gRun_runs hG (pdB_3 o x y m b)).seq (pdN_3 hG x y m b))
  generalize prI_F o x y 3 (m,b) = z at h ⊢
  exact ((gRun_runs hG (pda_3 o x y m b)).seq ((gRun_runs hG (pdA_3 o x y m b)).seq ((h.block (.inl rfl)).seq (gRun_runs hG (pdc_3 o x y z.1 z.2))))).freed (pdlo1 ..) (pdW_3 ..) rfl
theorem pdM_4_0 : RunsTo Tryz.prog 26 prM (pdI 4 0 x y b m) .normal (pdI 4 1 x y (pmO o b (fun k=>x k 4) (fun k=>y k 0)).2 (setM m 4 0 (pmO o b (fun k=>x k 4) (fun k=>y k 0)).1)):=gCut_runs hG (pdm_4_0 o x y m b) (pdlo ..) (pdo_4 ..) rfl
theorem pdM_4_1 : RunsTo Tryz.prog 26 prM (pdI 4 1 x y b m) .normal (pdI 4 2 x y (pmO o b (fun k=>x k 4) (fun k=>y k 1)).2 (setM m 4 1 (pmO o b (fun k=>x k 4) (fun k=>y k 1)).1)):=gCut_runs hG (pdm_4_1 o x y m b) (pdlo ..) (pdo_4 ..) rfl
theorem pdM_4_2 : RunsTo Tryz.prog 26 prM (pdI 4 2 x y b m) .normal (pdI 4 3 x y (pmO o b (fun k=>x k 4) (fun k=>y k 2)).2 (setM m 4 2 (pmO o b (fun k=>x k 4) (fun k=>y k 2)).1)):=gCut_runs hG (pdm_4_2 o x y m b) (pdlo ..) (pdo_4 ..) rfl
theorem pdM_4_3 : RunsTo Tryz.prog 26 prM (pdI 4 3 x y b m) .normal (pdI 4 4 x y (pmO o b (fun k=>x k 4) (fun k=>y k 3)).2 (setM m 4 3 (pmO o b (fun k=>x k 4) (fun k=>y k 3)).1)):=gCut_runs hG (pdm_4_3 o x y m b) (pdlo ..) (pdo_4 ..) rfl
theorem pdM_4_4 : RunsTo Tryz.prog 26 prM (pdI 4 4 x y b m) .normal (pdI 4 5 x y (pmO o b (fun k=>x k 4) (fun k=>y k 4)).2 (setM m 4 4 (pmO o b (fun k=>x k 4) (fun k=>y k 4)).1)):=gCut_runs hG (pdm_4_4 o x y m b) (pdlo ..) (pdo_4 ..) rfl
theorem pdM_4_5 : RunsTo Tryz.prog 26 prM (pdI 4 5 x y b m) .normal (pdI 4 6 x y (pmO o b (fun k=>x k 4) (fun k=>y k 5)).2 (setM m 4 5 (pmO o b (fun k=>x k 4) (fun k=>y k 5)).1)):=gCut_runs hG (pdm_4_5 o x y m b) (pdlo ..) (pdo_4 ..) rfl
theorem pdM_4_6 : RunsTo Tryz.prog 26 prM (pdI 4 6 x y b m) (.exit 2) (pdJ 4 x y b m):=gCut_runs hG (pdm_4_6 o x y m b) (pdlo ..) (pdp_4 ..) rfl
theorem pdN_4 : RunsTo Tryz.prog 26 (.block 2 (.loop prM)) (pdI 4 0 x y b m) .normal (pdJ 4 x y (prI_F o x y 4 (m,b)).2 (prI_F o x y 4 (m,b)).1) :=
  RunsTo.rounds (P:=Tryz.prog) (N:=26) (c:=prM) (id:=2) 6 (fun j z=>pdI 4 j x y z.2 z.1) (fun z=>pdJ 4 x y z.2 z.1) (prJ_F o x y 4)
    (fun j z hj=>match j,hj with
      | 0,_=>pdM_4_0 hG x y z.1 z.2
      | 1,_=>pdM_4_1 hG x y z.1 z.2
      | 2,_=>pdM_4_2 hG x y z.1 z.2
      | 3,_=>pdM_4_3 hG x y z.1 z.2
      | 4,_=>pdM_4_4 hG x y z.1 z.2
      | 5,_=>pdM_4_5 hG x y z.1 z.2
      | n + 6,h=>absurd h (by omega))
    (fun z=>pdM_4_6 hG x y z.1 z.2) (m,b)
theorem pdR_4 : RunsTo Tryz.prog 26 prL (pdO 4 x y b m) .normal (pdO 5 x y (prI_F o x y 4 (m,b)).2 (prI_F o x y 4 (m,b)).1):=by
  rw [prL_is]
  have h:=(gRun_runs hG (pdb_4 o x y m b)).seq ((gRun_runs hG (pdB_4 o x y m b)).seq (pdN_4 hG x y m b))
  generalize prI_F o x y 4 (m,b) = z at h ⊢
  exact ((gRun_runs hG (pda_4 o x y m b)).seq ((gRun_runs hG (pdA_4 o x y m b)).seq ((h.block (.inl rfl)).seq (gRun_runs hG (pdc_4 o x y z.1 z.2))))).freed (pdlo1 ..) (pdW_4 ..) rfl
theorem pdM_5_0 : RunsTo Tryz.prog 26 prM (pdI 5 0 x y b m) .normal (pdI 5 1 x y (pmO o b (fun k=>x k 5) (fun k=>y k 0)).2 (setM m 5 0 (pmO o b (fun k=>x k 5) (fun k=>y k 0)).1)):=gCut_runs hG (pdm_5_0 o x y m b) (pdlo ..) (pdo_5 ..) rfl
theorem pdM_5_1 : RunsTo Tryz.prog 26 prM (pdI 5 1 x y b m) .normal (pdI 5 2 x y (pmO o b (fun k=>x k 5) (fun k=>y k 1)).2 (setM m 5 1 (pmO o b (fun k=>x k 5) (fun k=>y k 1)).1)):=gCut_runs hG (pdm_5_1 o x y m b) (pdlo ..) (pdo_5 ..) rfl
theorem pdM_5_2 : RunsTo Tryz.prog 26 prM (pdI 5 2 x y b m) .normal (pdI 5 3 x y (pmO o b (fun k=>x k 5) (fun k=>y k 2)).2 (setM m 5 2 (pmO o b (fun k=>x k 5) (fun k=>y k 2)).1)):=gCut_runs hG (pdm_5_2 o x y m b) (pdlo ..) (pdo_5 ..) rfl
theorem pdM_5_3 : RunsTo Tryz.prog 26 prM (pdI 5 3 x y b m) .normal (pdI 5 4 x y (pmO o b (fun k=>x k 5) (fun k=>y k 3)).2 (setM m 5 3 (pmO o b (fun k=>x k 5) (fun k=>y k 3)).1)):=gCut_runs hG (pdm_5_3 o x y m b) (pdlo ..) (pdo_5 ..) rfl
theorem pdM_5_4 : RunsTo Tryz.prog 26 prM (pdI 5 4 x y b m) .normal (pdI 5 5 x y (pmO o b (fun k=>x k 5) (fun k=>y k 4)).2 (setM m 5 4 (pmO o b (fun k=>x k 5) (fun k=>y k 4)).1)):=gCut_runs hG (pdm_5_4 o x y m b) (pdlo ..) (pdo_5 ..) rfl
theorem pdM_5_5 : RunsTo Tryz.prog 26 prM (pdI 5 5 x y b m) .normal (pdI 5 6 x y (pmO o b (fun k=>x k 5) (fun k=>y k 5)).2 (setM m 5 5 (pmO o b (fun k=>x k 5) (fun k=>y k 5)).1)):=gCut_runs hG (pdm_5_5 o x y m b) (pdlo ..) (pdo_5 ..) rfl
theorem pdM_5_6 : RunsTo Tryz.prog 26 prM (pdI 5 6 x y b m) (.exit 2) (pdJ 5 x y b m):=gCut_runs hG (pdm_5_6 o x y m b) (pdlo ..) (pdp_5 ..) rfl
theorem pdN_5 : RunsTo Tryz.prog 26 (.block 2 (.loop prM)) (pdI 5 0 x y b m) .normal (pdJ 5 x y (prI_F o x y 5 (m,b)).2 (prI_F o x y 5 (m,b)).1) :=
  RunsTo.rounds (P:=Tryz.prog) (N:=26) (c:=prM) (id:=2) 6 (fun j z=>pdI 5 j x y z.2 z.1) (fun z=>pdJ 5 x y z.2 z.1) (prJ_F o x y 5)
    (fun j z hj=>match j,hj with
      | 0,_=>pdM_5_0 hG x y z.1 z.2
      | 1,_=>pdM_5_1 hG x y z.1 z.2
      | 2,_=>pdM_5_2 hG x y z.1 z.2
      | 3,_=>pdM_5_3 hG x y z.1 z.2
      | 4,_=>pdM_5_4 hG x y z.1 z.2
      | 5,_=>pdM_5_5 hG x y z.1 z.2
      | n + 6,h=>absurd h (by omega))
    (fun z=>pdM_5_6 hG x y z.1 z.2) (m,b)
theorem pdR_5 : RunsTo Tryz.prog 26 prL (pdO 5 x y b m) .normal (pdO 6 x y (prI_F o x y 5 (m,b)).2 (prI_F o x y 5 (m,b)).1):=by
  rw [prL_is]
  have h:=(gRun_runs hG (pdb_5 o x y m b)).seq ((gRun_runs hG (pdB_5 o x y m b)).seq (pdN_5 hG x y m b))
  generalize prI_F o x y 5 (m,b) = z at h ⊢
  exact ((gRun_runs hG (pda_5 o x y m b)).seq ((gRun_runs hG (pdA_5 o x y m b)).seq ((h.block (.inl rfl)).seq (gRun_runs hG (pdc_5 o x y z.1 z.2))))).freed (pdlo1 ..) (pdW_5 ..) rfl
theorem pdX : RunsTo Tryz.prog 26 prL (pdO 6 x y b m) (.exit 0) (prS [] (pdH x y b m []) nF):=gCut_runs hG (pdx o x y m b) (pdlo1 ..) (pdy ..) rfl
theorem pdL : RunsTo Tryz.prog 26 (.block 0 (.loop prL)) (pdO 0 x y b m) .normal (prS [] (pdH x y (iterF (prI_F o x y) 0 6 (m,b)).2 (iterF (prI_F o x y) 0 6 (m,b)).1 []) nF) :=
  RunsTo.rounds (P:=Tryz.prog) (N:=26) (c:=prL) (id:=0) 6 (fun i z=>pdO i x y z.2 z.1) (fun z=>prS [] (pdH x y z.2 z.1 []) nF) (prI_F o x y)
    (fun i z hi=>match i,hi with
      | 0,_=>pdR_0 hG x y z.1 z.2
      | 1,_=>pdR_1 hG x y z.1 z.2
      | 2,_=>pdR_2 hG x y z.1 z.2
      | 3,_=>pdR_3 hG x y z.1 z.2
      | 4,_=>pdR_4 hG x y z.1 z.2
      | 5,_=>pdR_5 hG x y z.1 z.2
      | n + 6,h=>absurd h (by omega))
    (fun z=>pdX hG x y z.1 z.2) (m,b)
omit m in
theorem pd_runs : RunsTo Tryz.prog 26 prC (startS 26 [.ptr 0 0,.ptr 1 0,.ptr 2 0] [.row 57 [.val (.bool b)],.row 112 (cells13 x),.row 112 (cells13 y)]) .ret (pdF x y (prodO o b x y).2 (prodO o b x y).1):=by
  have hc : prC = .seq pr0 (.seq pr1 (.seq (.seq pr2 (.block 0 (.loop prL))) prE)):=by
    unfold prC
    rw [prC_is]
    rfl
  rw [hc]
  have hL:=pdL hG x y mx0 b
  unfold prodO
  generalize iterF (prI_F o x y) 0 6 (mx0,b) = z at hL ⊢
  exact (gRun_runs hG (pd0 o x y b)).seq ((gRun_runs hG (pd1 o x y b)).seq (((gRun_runs hG (pd2 o x y b)).seq hL).seq (gRun_runs hG (pde o x y z.1 z.2))))
end
end Go.Ab
