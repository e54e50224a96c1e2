/- A part of the proof of 'WholeModes': lemmas, no statement of their own; no condition. -/
import Derived.Test.YtoocjipllmkjcaaGreatFjB0
namespace Go.Ab
open Go Go.Proofs
def pdH(x y:Mx)(b:Bool)(m:Mx)(e:List (Nat×Con)):Hp:=[(0,.row 57 [.val (.bool b)]),(1,.row 112 (cells13 x)),(2,.row 112 (cells13 y)),(nA,.row 55 [.ptr 0 0]),(nB,.row 121 [.ptr 1 0]),(nC,.row 121 [.ptr 2 0]),(nD,.row 40 (cells36 mx0)),(nE,.row 40 (cells36 m))]++e
abbrev pdK:List Nat:=[0,1,2,nA,nB,nC,nD,nE]
def pdO(i:Int)(x y:Mx)(b:Bool)(m:Mx):St:=prS [(10,.val (.int .i64 i))] (pdH x y b m []) nF
def pdI(i j:Int)(x y:Mx)(b:Bool)(m:Mx):St:=prS [(8,.ptr nF 0),(10,.val (.int .i64 i)),(13,.val (.int .i64 j))] (pdH x y b m [(nF,.row 3 [.val (.int .i64 i)])]) nG
def pdJ(i:Int)(x y:Mx)(b:Bool)(m:Mx):St:=prS [(8,.ptr nF 0),(10,.val (.int .i64 i))] (pdH x y b m [(nF,.row 3 [.val (.int .i64 i)])]) nG
def pdF(x y:Mx)(b:Bool)(m:Mx):St:=gSt 26 [(6,.ptr nD 0)] [(0,.row 57 [.val (.bool b)]),(1,.row 112 (cells13 x)),(2,.row 112 (cells13 y)),(nD,.row 40 (cells36 m))] nF
section
variable (o:Ops) (x y m:Mx) (b:Bool)
theorem pd0:gRun Tryz.prog {gam:=gamN o} 26 pr0 (startS 26 [.ptr 0 0,.ptr 1 0,.ptr 2 0] [.row 57 [.val (.bool b)],.row 112 (cells13 x),.row 112 (cells13 y)]) [0,1,2,nA,nB,nC,nD] [3,4,5,6]=some (.normal,gSt 26 [(3,.ptr nA 0),(4,.ptr nB 0),(5,.ptr nC 0),(6,.ptr nD 0)] [(0,.row 57 [.val (.bool b)]),(1,.row 112 (cells13 x)),(2,.row 112 (cells13 y)),(nA,.row 55 [.ptr 0 0]),(nB,.row 121 [.ptr 1 0]),(nC,.row 121 [.ptr 2 0]),(nD,.row 40 (cells36 mx0))] nE):=by kernel_rfl
def pdQ(x y:Mx)(b:Bool):St:=gSt 26 [(3,.ptr nA 0),(4,.ptr nB 0),(5,.ptr nC 0),(6,.ptr nD 0)] [(0,.row 57 [.val (.bool b)]),(1,.row 112 (cells13 x)),(2,.row 112 (cells13 y)),(nA,.row 55 [.ptr 0 0]),(nB,.row 121 [.ptr 1 0]),(nC,.row 121 [.ptr 2 0]),(nD,.row 40 (cells36 mx0))] nE
theorem pd1:gRun Tryz.prog {gam:=gamN o} 26 pr1 (pdQ x y b) pdK (prT [])=some (.normal,prS [] (pdH x y b mx0 []) nF):=by kernel_rfl
theorem pd2:gRun Tryz.prog {gam:=gamN o} 26 pr2 (prS [] (pdH x y b mx0 []) nF) pdK (prT [10])=some (.normal,pdO 0 x y b mx0):=by kernel_rfl
def pdU_0(x y:Mx)(b:Bool)(m:Mx):St:=prS [(10,.val (.int .i64 0)),(11,.val (.bool true))] (pdH x y b m []) nF
theorem pda_0:gRun Tryz.prog {gam:=gamN o} 26 pr3 (pdO 0 x y b m) pdK (prT [10,11])=some (.normal,pdU_0 x y b m):=by kernel_rfl
theorem pdA_0:gRun Tryz.prog {gam:=gamN o} 26 pr3b (pdU_0 x y b m) pdK (prT [10])=some (.normal,pdO 0 x y b m):=by kernel_rfl
theorem pdb_0:gRun Tryz.prog {gam:=gamN o} 26 pr4 (pdO 0 x y b m) (pdK++[nF]) (prT [8,10])=some (.normal,pdJ 0 x y b m):=by kernel_rfl
theorem pdB_0:gRun Tryz.prog {gam:=gamN o} 26 pr5 (pdJ 0 x y b m) (pdK++[nF]) (prT [8,10,13])=some (.normal,pdI 0 0 x y b m):=by kernel_rfl
theorem pdm_0_0:gCut Tryz.prog {gam:=gamN o} 26 prM (pdI 0 0 x y b m) nG (pdK++[nF]) (prT [8,10,13])=some (.normal,pdI 0 1 x y (pmO o b (fun k=>x k 0) (fun k=>y k 0)).2 (setM m 0 0 (pmO o b (fun k=>x k 0) (fun k=>y k 0)).1)):=by kernel_rfl
theorem pdm_0_1:gCut Tryz.prog {gam:=gamN o} 26 prM (pdI 0 1 x y b m) nG (pdK++[nF]) (prT [8,10,13])=some (.normal,pdI 0 2 x y (pmO o b (fun k=>x k 0) (fun k=>y k 1)).2 (setM m 0 1 (pmO o b (fun k=>x k 0) (fun k=>y k 1)).1)):=by kernel_rfl
theorem pdm_0_2:gCut Tryz.prog {gam:=gamN o} 26 prM (pdI 0 2 x y b m) nG (pdK++[nF]) (prT [8,10,13])=some (.normal,pdI 0 3 x y (pmO o b (fun k=>x k 0) (fun k=>y k 2)).2 (setM m 0 2 (pmO o b (fun k=>x k 0) (fun k=>y k 2)).1)):=by kernel_rfl
theorem pdm_0_3:gCut Tryz.prog {gam:=gamN o} 26 prM (pdI 0 3 x y b m) nG (pdK++[nF]) (prT [8,10,13])=some (.normal,pdI 0 4 x y (pmO o b (fun k=>x k 0) (fun k=>y k 3)).2 (setM m 0 3 (pmO o b (fun k=>x k 0) (fun k=>y k 3)).1)):=by kernel_rfl
theorem pdm_0_4:gCut Tryz.prog {gam:=gamN o} 26 prM (pdI 0 4 x y b m) nG (pdK++[nF]) (prT [8,10,13])=some (.normal,pdI 0 5 x y (pmO o b (fun k=>x k 0) (fun k=>y k 4)).2 (setM m 0 4 (pmO o b (fun k=>x k 0) (fun k=>y k 4)).1)):=by kernel_rfl
theorem pdm_0_5:gCut Tryz.prog {gam:=gamN o} 26 prM (pdI 0 5 x y b m) nG (pdK++[nF]) (prT [8,10,13])=some (.normal,pdI 0 6 x y (pmO o b (fun k=>x k 0) (fun k=>y k 5)).2 (setM m 0 5 (pmO o b (fun k=>x k 0) (fun k=>y k 5)).1)):=by kernel_rfl
theorem pdm_0_6:gCut Tryz.prog {gam:=gamN o} 26 prM (pdI 0 6 x y b m) nG (pdK++[nF]) (prT [8,10])=some (.exit 2,pdJ 0 x y b m):=by kernel_rfl
theorem pdc_0:gRun Tryz.prog {gam:=gamN o} 26 pr10 (pdJ 0 x y b m) pdK (prT [10])=some (.normal,{pdO 1 x y b m with lo:=nG}):=by kernel_rfl
theorem pdo_0(j:Int):okClean nG (pdI 0 j x y b m)=true:=by kernel_rfl
theorem pdp_0:okClean nG (pdJ 0 x y b m)=true:=by kernel_rfl
def pdU_1(x y:Mx)(b:Bool)(m:Mx):St:=prS [(10,.val (.int .i64 1)),(11,.val (.bool true))] (pdH x y b m []) nF
theorem pda_1:gRun Tryz.prog {gam:=gamN o} 26 pr3 (pdO 1 x y b m) pdK (prT [10,11])=some (.normal,pdU_1 x y b m):=by kernel_rfl
theorem pdA_1:gRun Tryz.prog {gam:=gamN o} 26 pr3b (pdU_1 x y b m) pdK (prT [10])=some (.normal,pdO 1 x y b m):=by kernel_rfl
theorem pdb_1:gRun Tryz.prog {gam:=gamN o} 26 pr4 (pdO 1 x y b m) (pdK++[nF]) (prT [8,10])=some (.normal,pdJ 1 x y b m):=by kernel_rfl
theorem pdB_1:gRun Tryz.prog {gam:=gamN o} 26 pr5 (pdJ 1 x y b m) (pdK++[nF]) (prT [8,10,13])=some (.normal,pdI 1 0 x y b m):=by kernel_rfl
theorem pdm_1_0:gCut Tryz.prog {gam:=gamN o} 26 prM (pdI 1 0 x y b m) nG (pdK++[nF]) (prT [8,10,13])=some (.normal,pdI 1 1 x y (pmO o b (fun k=>x k 1) (fun k=>y k 0)).2 (setM m 1 0 (pmO o b (fun k=>x k 1) (fun k=>y k 0)).1)):=by kernel_rfl
theorem pdm_1_1:gCut Tryz.prog {gam:=gamN o} 26 prM (pdI 1 1 x y b m) nG (pdK++[nF]) (prT [8,10,13])=some (.normal,pdI 1 2 x y (pmO o b (fun k=>x k 1) (fun k=>y k 1)).2 (setM m 1 1 (pmO o b (fun k=>x k 1) (fun k=>y k 1)).1)):=by kernel_rfl
theorem pdm_1_2:gCut Tryz.prog {gam:=gamN o} 26 prM (pdI 1 2 x y b m) nG (pdK++[nF]) (prT [8,10,13])=some (.normal,pdI 1 3 x y (pmO o b (fun k=>x k 1) (fun k=>y k 2)).2 (setM m 1 2 (pmO o b (fun k=>x k 1) (fun k=>y k 2)).1)):=by kernel_rfl
theorem pdm_1_3:gCut Tryz.prog {gam:=gamN o} 26 prM (pdI 1 3 x y b m) nG (pdK++[nF]) (prT [8,10,13])=some (.normal,pdI 1 4 x y (pmO o b (fun k=>x k 1) (fun k=>y k 3)).2 (setM m 1 3 (pmO o b (fun k=>x k 1) (fun k=>y k 3)).1)):=by kernel_rfl
theorem pdm_1_4:gCut Tryz.prog {gam:=gamN o} 26 prM (pdI 1 4 x y b m) nG (pdK++[nF]) (prT [8,10,13])=some (.normal,pdI 1 5 x y (pmO o b (fun k=>x k 1) (fun k=>y k 4)).2 (setM m 1 4 (pmO o b (fun k=>x k 1) (fun k=>y k 4)).1)):=by kernel_rfl
theorem pdm_1_5:gCut Tryz.prog {gam:=gamN o} 26 prM (pdI 1 5 x y b m) nG (pdK++[nF]) (prT [8,10,13])=some (.normal,pdI 1 6 x y (pmO o b (fun k=>x k 1) (fun k=>y k 5)).2 (setM m 1 5 (pmO o b (fun k=>x k 1) (fun k=>y k 5)).1)):=by kernel_rfl
theorem pdm_1_6:gCut Tryz.prog {gam:=gamN o} 26 prM (pdI 1 6 x y b m) nG (pdK++[nF]) (prT [8,10])=some (.exit 2,pdJ 1 x y b m):=by kernel_rfl
theorem pdc_1:gRun Tryz.prog {gam:=gamN o} 26 pr10 (pdJ 1 x y b m) pdK (prT [10])=some (.normal,{pdO 2 x y b m with lo:=nG}):=by kernel_rfl
theorem pdo_1(j:Int):okClean nG (pdI 1 j x y b m)=true:=by kernel_rfl
theorem pdp_1:okClean nG (pdJ 1 x y b m)=true:=by kernel_rfl
def pdU_2(x y:Mx)(b:Bool)(m:Mx):St:=prS [(10,.val (.int .i64 2)),(11,.val (.bool true))] (pdH x y b m []) nF
theorem pda_2:gRun Tryz.prog {gam:=gamN o} 26 pr3 (pdO 2 x y b m) pdK (prT [10,11])=some (.normal,pdU_2 x y b m):=by kernel_rfl
theorem pdA_2:gRun Tryz.prog {gam:=gamN o} 26 pr3b (pdU_2 x y b m) pdK (prT [10])=some (.normal,pdO 2 x y b m):=by kernel_rfl
theorem pdb_2:gRun Tryz.prog {gam:=gamN o} 26 pr4 (pdO 2 x y b m) (pdK++[nF]) (prT [8,10])=some (.normal,pdJ 2 x y b m):=by kernel_rfl
theorem pdB_2:gRun Tryz.prog {gam:=gamN o} 26 pr5 (pdJ 2 x y b m) (pdK++[nF]) (prT [8,10,13])=some (.normal,pdI 2 0 x y b m):=by kernel_rfl
theorem pdm_2_0:gCut Tryz.prog {gam:=gamN o} 26 prM (pdI 2 0 x y b m) nG (pdK++[nF]) (prT [8,10,13])=some (.normal,pdI 2 1 x y (pmO o b (fun k=>x k 2) (fun k=>y k 0)).2 (setM m 2 0 (pmO o b (fun k=>x k 2) (fun k=>y k 0)).1)):=by kernel_rfl
theorem pdm_2_1:gCut Tryz.prog {gam:=gamN o} 26 prM (pdI 2 1 x y b m) nG (pdK++[nF]) (prT [8,10,13])=some (.normal,pdI 2 2 x y (pmO o b (fun k=>x k 2) (fun k=>y k 1)).2 (setM m 2 1 (pmO o b (fun k=>x k 2) (fun k=>y k 1)).1)):=by kernel_rfl
theorem pdm_2_2:gCut Tryz.prog {gam:=gamN o} 26 prM (pdI 2 2 x y b m) nG (pdK++[nF]) (prT [8,10,13])=some (.normal,pdI 2 3 x y (pmO o b (fun k=>x k 2) (fun k=>y k 2)).2 (setM m 2 2 (pmO o b (fun k=>x k 2) (fun k=>y k 2)).1)):=by kernel_rfl
theorem pdm_2_3:gCut Tryz.prog {gam:=gamN o} 26 prM (pdI 2 3 x y b m) nG (pdK++[nF]) (prT [8,10,13])=some (.normal,pdI 2 4 x y (pmO o b (fun k=>x k 2) (fun k=>y k 3)).2 (setM m 2 3 (pmO o b (fun k=>x k 2) (fun k=>y k 3)).1)):=by kernel_rfl
theorem pdm_2_4:gCut Tryz.prog {gam:=gamN o} 26 prM (pdI 2 4 x y b m) nG (pdK++[nF]) (prT [8,10,13])=some (.normal,pdI 2 5 x y (pmO o b (fun k=>x k 2) (fun k=>y k 4)).2 (setM m 2 4 (pmO o b (fun k=>x k 2) (fun k=>y k 4)).1)):=by kernel_rfl
theorem pdm_2_5:gCut Tryz.prog {gam:=gamN o} 26 prM (pdI 2 5 x y b m) nG (pdK++[nF]) (prT [8,10,13])=some (.normal,pdI 2 6 x y (pmO o b (fun k=>x k 2) (fun k=>y k 5)).2 (setM m 2 5 (pmO o b (fun k=>x k 2) (fun k=>y k 5)).1)):=by kernel_rfl
theorem pdm_2_6:gCut Tryz.prog {gam:=gamN o} 26 prM (pdI 2 6 x y b m) nG (pdK++[nF]) (prT [8,10])=some (.exit 2,pdJ 2 x y b m):=by kernel_rfl
theorem pdc_2:gRun Tryz.prog {gam:=gamN o} 26 pr10 (pdJ 2 x y b m) pdK (prT [10])=some (.normal,{pdO 3 x y b m with lo:=nG}):=by kernel_rfl
theorem pdo_2(j:Int):okClean nG (pdI 2 j x y b m)=true:=by kernel_rfl
theorem pdp_2:okClean nG (pdJ 2 x y b m)=true:=by kernel_rfl
def pdU_3(x y:Mx)(b:Bool)(m:Mx):St:=prS [(10,.val (.int .i64 3)),(11,.val (.bool true))] (pdH x y b m []) nF
theorem pda_3:gRun Tryz.prog {gam:=gamN o} 26 pr3 (pdO 3 x y b m) pdK (prT [10,11])=some (.normal,pdU_3 x y b m):=by kernel_rfl
theorem pdA_3:gRun Tryz.prog {gam:=gamN o} 26 pr3b (pdU_3 x y b m) pdK (prT [10])=some (.normal,pdO 3 x y b m):=by kernel_rfl
theorem pdb_3:gRun Tryz.prog {gam:=gamN o} 26 pr4 (pdO 3 x y b m) (pdK++[nF]) (prT [8,10])=some (.normal,pdJ 3 x y b m):=by kernel_rfl
theorem pdB_3:gRun Tryz.prog {gam:=gamN o} 26 pr5 (pdJ 3 x y b m) (pdK++[nF]) (prT [8,10,13])=some (.normal,pdI 3 0 x y b m):=by kernel_rfl
theorem pdm_3_0:gCut Tryz.prog {gam:=gamN o} 26 prM (pdI 3 0 x y b m) nG (pdK++[nF]) (prT [8,10,13])=some (.normal,pdI 3 1 x y (pmO o b (fun k=>x k 3) (fun k=>y k 0)).2 (setM m 3 0 (pmO o b (fun k=>x k 3) (fun k=>y k 0)).1)):=by kernel_rfl
theorem pdm_3_1:gCut Tryz.prog {gam:=gamN o} 26 prM (pdI 3 1 x y b m) nG (pdK++[nF]) (prT [8,10,13])=some (.normal,pdI 3 2 x y (pmO o b (fun k=>x k 3) (fun k=>y k 1)).2 (setM m 3 1 (pmO o b (fun k=>x k 3) (fun k=>y k 1)).1)):=by kernel_rfl
theorem pdm_3_2:gCut Tryz.prog {gam:=gamN o} 26 prM (pdI 3 2 x y b m) nG (pdK++[nF]) (prT [8,10,13])=some (.normal,pdI 3 3 x y (pmO o b (fun k=>x k 3) (fun k=>y k 2)).2 (setM m 3 2 (pmO o b (fun k=>x k 3) (fun k=>y k 2)).1)):=by kernel_rfl
theorem pdm_3_3:gCut Tryz.prog {gam:=gamN o} 26 prM (pdI 3 3 x y b m) nG (pdK++[nF]) (prT [8,10,13])=some (.normal,pdI 3 4 x y (pmO o b (fun k=>x k 3) (fun k=>y k 3)).2 (setM m 3 3 (pmO o b (fun k=>x k 3) (fun k=>y k 3)).1)):=by kernel_rfl
theorem pdm_3_4:gCut Tryz.prog {gam:=gamN o} 26 prM (pdI 3 4 x y b m) nG (pdK++[nF]) (prT [8,10,13])=some (.normal,pdI 3 5 x y (pmO o b (fun k=>x k 3) (fun k=>y k 4)).2 (setM m 3 4 (pmO o b (fun k=>x k 3) (fun k=>y k 4)).1)):=by kernel_rfl
theorem pdm_3_5:gCut Tryz.prog {gam:=gamN o} 26 prM (pdI 3 5 x y b m) nG (pdK++[nF]) (prT [8,10,13])=some (.normal,pdI 3 6 x y (pmO o b (fun k=>x k 3) (fun k=>y k 5)).2 (setM m 3 5 (pmO o b (fun k=>x k 3) (fun k=>y k 5)).1)):=by kernel_rfl
theorem pdm_3_6:gCut Tryz.prog {gam:=gamN o} 26 prM (pdI 3 6 x y b m) nG (pdK++[nF]) (prT [8,10])=some (.exit 2,pdJ 3 x y b m):=by kernel_rfl
theorem pdc_3:gRun Tryz.prog {gam:=gamN o} 26 pr10 (pdJ 3 x y b m) pdK (prT [10])=some (.normal,{pdO 4 x y b m with lo:=nG}):=by kernel_rfl
theorem pdo_3(j:Int):okClean nG (pdI 3 j x y b m)=true:=by kernel_rfl
theorem pdp_3:okClean nG (pdJ 3 x y b m)=true:=by kernel_rfl
def pdU_4(x y:Mx)(b:Bool)(m:Mx):St:=prS [(10,.val (.int .i64 4)),(11,.val (.bool true))] (pdH x y b m []) nF
theorem pda_4:gRun Tryz.prog {gam:=gamN o} 26 pr3 (pdO 4 x y b m) pdK (prT [10,11])=some (.normal,pdU_4 x y b m):=by kernel_rfl
theorem pdA_4:gRun Tryz.prog {gam:=gamN o} 26 pr3b (pdU_4 x y b m) pdK (prT [10])=some (.normal,pdO 4 x y b m):=by kernel_rfl
theorem pdb_4:gRun Tryz.prog {gam:=gamN o} 26 pr4 (pdO 4 x y b m) (pdK++[nF]) (prT [8,10])=some (.normal,pdJ 4 x y b m):=by kernel_rfl
theorem pdB_4:gRun Tryz.prog {gam:=gamN o} 26 pr5 (pdJ 4 x y b m) (pdK++[nF]) (prT [8,10,13])=some (.normal,pdI 4 0 x y b m):=by kernel_rfl
theorem pdm_4_0:gCut Tryz.prog {gam:=gamN o} 26 prM (pdI 4 0 x y b m) nG (pdK++[nF]) (prT [8,10,13])=some (.normal,pdI 4 1 x y (pmO o b (fun k=>x k 4) (fun k=>y k 0)).2 (setM m 4 0 (pmO o b (fun k=>x k 4) (fun k=>y k 0)).1)):=by kernel_rfl
theorem pdm_4_1:gCut Tryz.prog {gam:=gamN o} 26 prM (pdI 4 1 x y b m) nG (pdK++[nF]) (prT [8,10,13])=some (.normal,pdI 4 2 x y (pmO o b (fun k=>x k 4) (fun k=>y k 1)).2 (setM m 4 1 (pmO o b (fun k=>x k 4) (fun k=>y k 1)).1)):=by kernel_rfl
theorem pdm_4_2:gCut Tryz.prog {gam:=gamN o} 26 prM (pdI 4 2 x y b m) nG (pdK++[nF]) (prT [8,10,13])=some (.normal,pdI 4 3 x y (pmO o b (fun k=>x k 4) (fun k=>y k 2)).2 (setM m 4 2 (pmO o b (fun k=>x k 4) (fun k=>y k 2)).1)):=by kernel_rfl
theorem pdm_4_3:gCut Tryz.prog {gam:=gamN o} 26 prM (pdI 4 3 x y b m) nG (pdK++[nF]) (prT [8,10,13])=some (.normal,pdI 4 4 x y (pmO o b (fun k=>x k 4) (fun k=>y k 3)).2 (setM m 4 3 (pmO o b (fun k=>x k 4) (fun k=>y k 3)).1)):=by kernel_rfl
theorem pdm_4_4:gCut Tryz.prog {gam:=gamN o} 26 prM (pdI 4 4 x y b m) nG (pdK++[nF]) (prT [8,10,13])=some (.normal,pdI 4 5 x y (pmO o b (fun k=>x k 4) (fun k=>y k 4)).2 (setM m 4 4 (pmO o b (fun k=>x k 4) (fun k=>y k 4)).1)):=by kernel_rfl
theorem pdm_4_5:gCut Tryz.prog {gam:=gamN o} 26 prM (pdI 4 5 x y b m) nG (pdK++[nF]) (prT [8,10,13])=some (.normal,pdI 4 6 x y (pmO o b (fun k=>x k 4) (fun k=>y k 5)).2 (setM m 4 5 (pmO o b (fun k=>x k 4) (fun k=>y k 5)).1)):=by kernel_rfl
theorem pdm_4_6:gCut Tryz.prog {gam:=gamN o} 26 prM (pdI 4 6 x y b m) nG (pdK++[nF]) (prT [8,10])=some (.exit 2,pdJ 4 x y b m):=by kernel_rfl
theorem pdc_4:gRun Tryz.prog {gam:=gamN o} 26 pr10 (pdJ 4 x y b m) pdK (prT [10])=some (.normal,{pdO 5 x y b m with lo:=nG}):=by kernel_rfl
theorem pdo_4(j:Int):okClean nG (pdI 4 j x y b m)=true:=by kernel_rfl
theorem pdp_4:okClean nG (pdJ 4 x y b m)=true:=by kernel_rfl
def pdU_5(x y:Mx)(b:Bool)(m:Mx):St:=prS [(10,.val (.int .i64 5)),(11,.val (.bool true))] (pdH x y b m []) nF
theorem pda_5:gRun Tryz.prog {gam:=gamN o} 26 pr3 (pdO 5 x y b m) pdK (prT [10,11])=some (.normal,pdU_5 x y b m):=by kernel_rfl
theorem pdA_5:gRun Tryz.prog {gam:=gamN o} 26 pr3b (pdU_5 x y b m) pdK (prT [10])=some (.normal,pdO 5 x y b m):=by kernel_rfl
theorem pdb_5:gRun Tryz.prog {gam:=gamN o} 26 pr4 (pdO 5 x y b m) (pdK++[nF]) (prT [8,10])=some (.normal,pdJ 5 x y b m):=by kernel_rfl
theorem pdB_5:gRun Tryz.prog {gam:=gamN o} 26 pr5 (pdJ 5 x y b m) (pdK++[nF]) (prT [8,10,13])=some (.normal,pdI 5 0 x y b m):=by kernel_rfl
theorem pdm_5_0:gCut Tryz.prog {gam:=gamN o} 26 prM (pdI 5 0 x y b m) nG (pdK++[nF]) (prT [8,10,13])=some (.normal,pdI 5 1 x y (pmO o b (fun k=>x k 5) (fun k=>y k 0)).2 (setM m 5 0 (pmO o b (fun k=>x k 5) (fun k=>y k 0)).1)):=by kernel_rfl
theorem pdm_5_1:gCut Tryz.prog {gam:=gamN o} 26 prM (pdI 5 1 x y b m) nG (pdK++[nF]) (prT [8,10,13])=some (.normal,pdI 5 2 x y (pmO o b (fun k=>x k 5) (fun k=>y k 1)).2 (setM m 5 1 (pmO o b (fun k=>x k 5) (fun k=>y k 1)).1)):=by kernel_rfl
theorem pdm_5_2:gCut Tryz.prog {gam:=gamN o} 26 prM (pdI 5 2 x y b m) nG (pdK++[nF]) (prT [8,10,13])=some (.normal,pdI 5 3 x y (pmO o b (fun k=>x k 5) (fun k=>y k 2)).2 (setM m 5 2 (pmO o b (fun k=>x k 5) (fun k=>y k 2)).1)):=by kernel_rfl
theorem pdm_5_3:gCut Tryz.prog {gam:=gamN o} 26 prM (pdI 5 3 x y b m) nG (pdK++[nF]) (prT [8,10,13])=some (.normal,pdI 5 4 x y (pmO o b (fun k=>x k 5) (fun k=>y k 3)).2 (setM m 5 3 (pmO o b (fun k=>x k 5) (fun k=>y k 3)).1)):=by kernel_rfl
theorem pdm_5_4:gCut Tryz.prog {gam:=gamN o} 26 prM (pdI 5 4 x y b m) nG (pdK++[nF]) (prT [8,10,13])=some (.normal,pdI 5 5 x y (pmO o b (fun k=>x k 5) (fun k=>y k 4)).2 (setM m 5 4 (pmO o b (fun k=>x k 5) (fun k=>y k 4)).1)):=by kernel_rfl
theorem pdm_5_5:gCut Tryz.prog {gam:=gamN o} 26 prM (pdI 5 5 x y b m) nG (pdK++[nF]) (prT [8,10,13])=some (.normal,pdI 5 6 x y (pmO o b (fun k=>x k 5) (fun k=>y k 5)).2 (setM m 5 5 (pmO o b (fun k=>x k 5) (fun k=>y k 5)).1)):=by kernel_rfl
theorem pdm_5_6:gCut Tryz.prog {gam:=gamN o} 26 prM (pdI 5 6 x y b m) nG (pdK++[nF]) (prT [8,10])=some (.exit 2,pdJ 5 x y b m):=by kernel_rfl
theorem pdc_5:gRun Tryz.prog {gam:=gamN o} 26 pr10 (pdJ 5 x y b m) pdK (prT [10])=some (.normal,{pdO 6 x y b m with lo:=nG}):=by kernel_rfl
theorem pdo_5(j:Int):okClean nG (pdI 5 j x y b m)=true:=by kernel_rfl
theorem pdp_5:okClean nG (pdJ 5 x y b m)=true:=by kernel_rfl
theorem pdW_0:okClean nF ({pdO 1 x y b m with lo:=nG}:St)=true:=by kernel_rfl
theorem pdW_1:okClean nF ({pdO 2 x y b m with lo:=nG}:St)=true:=by kernel_rfl
theorem pdW_2:okClean nF ({pdO 3 x y b m with lo:=nG}:St)=true:=by kernel_rfl
theorem pdW_3:okClean nF ({pdO 4 x y b m with lo:=nG}:St)=true:=by kernel_rfl
theorem pdW_4:okClean nF ({pdO 5 x y b m with lo:=nG}:St)=true:=by kernel_rfl
theorem pdW_5:okClean nF ({pdO 6 x y b m with lo:=nG}:St)=true:=by kernel_rfl
theorem pdx:gCut Tryz.prog {gam:=gamN o} 26 prL (pdO 6 x y b m) nF pdK (prT [])=some (.exit 0,prS [] (pdH x y b m []) nF):=by kernel_rfl
theorem pdy:okClean nF (prS [] (pdH x y b m []) nF)=true:=by kernel_rfl
theorem pde:gRun Tryz.prog {gam:=gamN o} 26 prE (prS [] (pdH x y b m []) nF) [0,1,2,nD] [6]=some (.ret,pdF x y b m):=by kernel_rfl
theorem pdr:resA Tryz.prog (pdF x y b m) Tryz.f58.results.toList=some [.val (Cod.enc (M6.of m))]:=by kernel_rfl
end
section
variable {o:Ops} (hG:GamOk Tryz.prog ({gam:=gamN o}:Env).gam) (x y m:Mx) (b:Bool)
include hG
omit hG in
theorem pdlo(i j:Int):(pdI i j x y b m).lo=nG:=rfl
omit hG in
theorem pdlo1(i:Int):(pdO i x y b m).lo=nF:=rfl
theorem pdM_0_0:RunsTo Tryz.prog 26 prM (pdI 0 0 x y b m) .normal (pdI 0 1 x y (pmO o b (fun k=>x k 0) (fun k=>y k 0)).2 (setM m 0 0 (pmO o b (fun k=>x k 0) (fun k=>y k 0)).1)):=gCut_runs hG (pdm_0_0 o x y m b) (pdlo ..) (pdo_0 ..) rfl
theorem pdM_0_1:RunsTo Tryz.prog 26 prM (pdI 0 1 x y b m) .normal (pdI 0 2 x y (pmO o b (fun k=>x k 0) (fun k=>y k 1)).2 (setM m 0 1 (pmO o b (fun k=>x k 0) (fun k=>y k 1)).1)):=gCut_runs hG (pdm_0_1 o x y m b) (pdlo ..) (pdo_0 ..) rfl
theorem pdM_0_2:RunsTo Tryz.prog 26 prM (pdI 0 2 x y b m) .normal (pdI 0 3 x y (pmO o b (fun k=>x k 0) (fun k=>y k 2)).2 (setM m 0 2 (pmO o b (fun k=>x k 0) (fun k=>y k 2)).1)):=gCut_runs hG (pdm_0_2 o x y m b) (pdlo ..) (pdo_0 ..) rfl
theorem pdM_0_3:RunsTo Tryz.prog 26 prM (pdI 0 3 x y b m) .normal (pdI 0 4 x y (pmO o b (fun k=>x k 0) (fun k=>y k 3)).2 (setM m 0 3 (pmO o b (fun k=>x k 0) (fun k=>y k 3)).1)):=gCut_runs hG (pdm_0_3 o x y m b) (pdlo ..) (pdo_0 ..) rfl
theorem pdM_0_4:RunsTo Tryz.prog 26 prM (pdI 0 4 x y b m) .normal (pdI 0 5 x y (pmO o b (fun k=>x k 0) (fun k=>y k 4)).2 (setM m 0 4 (pmO o b (fun k=>x k 0) (fun k=>y k 4)).1)):=gCut_runs hG (pdm_0_4 o x y m b) (pdlo ..) (pdo_0 ..) rfl
theorem pdM_0_5:RunsTo Tryz.prog 26 prM (pdI 0 5 x y b m) .normal (pdI 0 6 x y (pmO o b (fun k=>x k 0) (fun k=>y k 5)).2 (setM m 0 5 (pmO o b (fun k=>x k 0) (fun k=>y k 5)).1)):=gCut_runs hG (pdm_0_5 o x y m b) (pdlo ..) (pdo_0 ..) rfl
theorem pdM_0_6:RunsTo Tryz.prog 26 prM (pdI 0 6 x y b m) (.exit 2) (pdJ 0 x y b m):=gCut_runs hG (pdm_0_6 o x y m b) (pdlo ..) (pdp_0 ..) rfl
theorem pdN_0:RunsTo Tryz.prog 26 (.block 2 (.loop prM)) (pdI 0 0 x y b m) .normal (pdJ 0 x y (prI_F o x y 0 (m,b)).2 (prI_F o x y 0 (m,b)).1) :=
 RunsTo.rounds (P:=Tryz.prog) (N:=26) (c:=prM) (id:=2) 6 (fun j z=>pdI 0 j x y z.2 z.1) (fun z=>pdJ 0 x y z.2 z.1) (prJ_F o x y 0)
  (fun j z hj=>match j,hj with
   | 0,_=>pdM_0_0 hG x y z.1 z.2
   | 1,_=>pdM_0_1 hG x y z.1 z.2
   | 2,_=>pdM_0_2 hG x y z.1 z.2
   | 3,_=>pdM_0_3 hG x y z.1 z.2
   | 4,_=>pdM_0_4 hG x y z.1 z.2
   | 5,_=>pdM_0_5 hG x y z.1 z.2
   | n+6,h=>absurd h (by omega))
  (fun z=>pdM_0_6 hG x y z.1 z.2) (m,b)
theorem pdR_0:RunsTo Tryz.prog 26 prL (pdO 0 x y b m) .normal (pdO 1 x y (prI_F o x y 0 (m,b)).2 (prI_F o x y 0 (m,b)).1):=by
 rw[prL_is]
 have h:=(gRun_runs hG (pdb_0 o x y m b)).seq ((gRun_runs hG (pdB_0 o x y m b)).seq (pdN_0 hG x y m b))
 generalize prI_F o x y 0 (m,b)=z at h ⊢
 exact ((gRun_runs hG (pda_0 o x y m b)).seq ((gRun_runs hG (pdA_0 o x y m b)).seq ((h.block (.inl rfl)).seq (gRun_runs hG (pdc_0 o x y z.1 z.2))))).freed (pdlo1 ..) (pdW_0 ..) rfl
theorem pdM_1_0:RunsTo Tryz.prog 26 prM (pdI 1 0 x y b m) .normal (pdI 1 1 x y (pmO o b (fun k=>x k 1) (fun k=>y k 0)).2 (setM m 1 0 (pmO o b (fun k=>x k 1) (fun k=>y k 0)).1)):=gCut_runs hG (pdm_1_0 o x y m b) (pdlo ..) (pdo_1 ..) rfl
theorem pdM_1_1:RunsTo Tryz.prog 26 prM (pdI 1 1 x y b m) .normal (pdI 1 2 x y (pmO o b (fun k=>x k 1) (fun k=>y k 1)).2 (setM m 1 1 (pmO o b (fun k=>x k 1) (fun k=>y k 1)).1)):=gCut_runs hG (pdm_1_1 o x y m b) (pdlo ..) (pdo_1 ..) rfl
theorem pdM_1_2:RunsTo Tryz.prog 26 prM (pdI 1 2 x y b m) .normal (pdI 1 3 x y (pmO o b (fun k=>x k 1) (fun k=>y k 2)).2 (setM m 1 2 (pmO o b (fun k=>x k 1) (fun k=>y k 2)).1)):=gCut_runs hG (pdm_1_2 o x y m b) (pdlo ..) (pdo_1 ..) rfl
theorem pdM_1_3:RunsTo Tryz.prog 26 prM (pdI 1 3 x y b m) .normal (pdI 1 4 x y (pmO o b (fun k=>x k 1) (fun k=>y k 3)).2 (setM m 1 3 (pmO o b (fun k=>x k 1) (fun k=>y k 3)).1)):=gCut_runs hG (pdm_1_3 o x y m b) (pdlo ..) (pdo_1 ..) rfl
theorem pdM_1_4:RunsTo Tryz.prog 26 prM (pdI 1 4 x y b m) .normal (pdI 1 5 x y (pmO o b (fun k=>x k 1) (fun k=>y k 4)).2 (setM m 1 4 (pmO o b (fun k=>x k 1) (fun k=>y k 4)).1)):=gCut_runs hG (pdm_1_4 o x y m b) (pdlo ..) (pdo_1 ..) rfl
theorem pdM_1_5:RunsTo Tryz.prog 26 prM (pdI 1 5 x y b m) .normal (pdI 1 6 x y (pmO o b (fun k=>x k 1) (fun k=>y k 5)).2 (setM m 1 5 (pmO o b (fun k=>x k 1) (fun k=>y k 5)).1)):=gCut_runs hG (pdm_1_5 o x y m b) (pdlo ..) (pdo_1 ..) rfl
theorem pdM_1_6:RunsTo Tryz.prog 26 prM (pdI 1 6 x y b m) (.exit 2) (pdJ 1 x y b m):=gCut_runs hG (pdm_1_6 o x y m b) (pdlo ..) (pdp_1 ..) rfl
theorem pdN_1:RunsTo Tryz.prog 26 (.block 2 (.loop prM)) (pdI 1 0 x y b m) .normal (pdJ 1 x y (prI_F o x y 1 (m,b)).2 (prI_F o x y 1 (m,b)).1) :=
 RunsTo.rounds (P:=Tryz.prog) (N:=26) (c:=prM) (id:=2) 6 (fun j z=>pdI 1 j x y z.2 z.1) (fun z=>pdJ 1 x y z.2 z.1) (prJ_F o x y 1)
  (fun j z hj=>match j,hj with
   | 0,_=>pdM_1_0 hG x y z.1 z.2
   | 1,_=>pdM_1_1 hG x y z.1 z.2
   | 2,_=>pdM_1_2 hG x y z.1 z.2
   | 3,_=>pdM_1_3 hG x y z.1 z.2
   | 4,_=>pdM_1_4 hG x y z.1 z.2
   | 5,_=>pdM_1_5 hG x y z.1 z.2
   | n+6,h=>absurd h (by omega))
  (fun z=>pdM_1_6 hG x y z.1 z.2) (m,b)
theorem pdR_1:RunsTo Tryz.prog 26 prL (pdO 1 x y b m) .normal (pdO 2 x y (prI_F o x y 1 (m,b)).2 (prI_F o x y 1 (m,b)).1):=by
 rw[prL_is]
 have h:=(gRun_runs hG (pdb_1 o x y m b)).seq ((gRun_runs hG (pdB_1 o x y m b)).seq (pdN_1 hG x y m b))
 generalize prI_F o x y 1 (m,b)=z at h ⊢
 exact ((gRun_runs hG (pda_1 o x y m b)).seq ((gRun_runs hG (pdA_1 o x y m b)).seq ((h.block (.inl rfl)).seq (gRun_runs hG (pdc_1 o x y z.1 z.2))))).freed (pdlo1 ..) (pdW_1 ..) rfl
theorem pdM_2_0:RunsTo Tryz.prog 26 prM (pdI 2 0 x y b m) .normal (pdI 2 1 x y (pmO o b (fun k=>x k 2) (fun k=>y k 0)).2 (setM m 2 0 (pmO o b (fun k=>x k 2) (fun k=>y k 0)).1)):=gCut_runs hG (pdm_2_0 o x y m b) (pdlo ..) (pdo_2 ..) rfl
theorem pdM_2_1:RunsTo Tryz.prog 26 prM (pdI 2 1 x y b m) .normal (pdI 2 2 x y (pmO o b (fun k=>x k 2) (fun k=>y k 1)).2 (setM m 2 1 (pmO o b (fun k=>x k 2) (fun k=>y k 1)).1)):=gCut_runs hG (pdm_2_1 o x y m b) (pdlo ..) (pdo_2 ..) rfl
theorem pdM_2_2:RunsTo Tryz.prog 26 prM (pdI 2 2 x y b m) .normal (pdI 2 3 x y (pmO o b (fun k=>x k 2) (fun k=>y k 2)).2 (setM m 2 2 (pmO o b (fun k=>x k 2) (fun k=>y k 2)).1)):=gCut_runs hG (pdm_2_2 o x y m b) (pdlo ..) (pdo_2 ..) rfl
theorem pdM_2_3:RunsTo Tryz.prog 26 prM (pdI 2 3 x y b m) .normal (pdI 2 4 x y (pmO o b (fun k=>x k 2) (fun k=>y k 3)).2 (setM m 2 3 (pmO o b (fun k=>x k 2) (fun k=>y k 3)).1)):=gCut_runs hG (pdm_2_3 o x y m b) (pdlo ..) (pdo_2 ..) rfl
theorem pdM_2_4:RunsTo Tryz.prog 26 prM (pdI 2 4 x y b m) .normal (pdI 2 5 x y (pmO o b (fun k=>x k 2) (fun k=>y k 4)).2 (setM m 2 4 (pmO o b (fun k=>x k 2) (fun k=>y k 4)).1)):=gCut_runs hG (pdm_2_4 o x y m b) (pdlo ..) (pdo_2 ..) rfl
theorem pdM_2_5:RunsTo Tryz.prog 26 prM (pdI 2 5 x y b m) .normal (pdI 2 6 x y (pmO o b (fun k=>x k 2) (fun k=>y k 5)).2 (setM m 2 5 (pmO o b (fun k=>x k 2) (fun k=>y k 5)).1)):=gCut_runs hG (pdm_2_5 o x y m b) (pdlo ..) (pdo_2 ..) rfl
theorem pdM_2_6:RunsTo Tryz.prog 26 prM (pdI 2 6 x y b m) (.exit 2) (pdJ 2 x y b m):=gCut_runs hG (pdm_2_6 o x y m b) (pdlo ..) (pdp_2 ..) rfl
theorem pdN_2:RunsTo Tryz.prog 26 (.block 2 (.loop prM)) (pdI 2 0 x y b m) .normal (pdJ 2 x y (prI_F o x y 2 (m,b)).2 (prI_F o x y 2 (m,b)).1) :=
 RunsTo.rounds (P:=Tryz.prog) (N:=26) (c:=prM) (id:=2) 6 (fun j z=>pdI 2 j x y z.2 z.1) (fun z=>pdJ 2 x y z.2 z.1) (prJ_F o x y 2)
  (fun j z hj=>match j,hj with
   | 0,_=>pdM_2_0 hG x y z.1 z.2
   | 1,_=>pdM_2_1 hG x y z.1 z.2
   | 2,_=>pdM_2_2 hG x y z.1 z.2
   | 3,_=>pdM_2_3 hG x y z.1 z.2
   | 4,_=>pdM_2_4 hG x y z.1 z.2
   | 5,_=>pdM_2_5 hG x y z.1 z.2
   | n+6,h=>absurd h (by omega))
  (fun z=>pdM_2_6 hG x y z.1 z.2) (m,b)
theorem pdR_2:RunsTo Tryz.prog 26 prL (pdO 2 x y b m) .normal (pdO 3 x y (prI_F o x y 2 (m,b)).2 (prI_F o x y 2 (m,b)).1):=by
 rw[prL_is]
 have h:=(gRun_runs hG (pdb_2 o x y m b)).seq ((gRun_runs hG (pdB_2 o x y m b)).seq (pdN_2 hG x y m b))
 generalize prI_F o x y 2 (m,b)=z at h ⊢
 exact ((gRun_runs hG (pda_2 o x y m b)).seq ((gRun_runs hG (pdA_2 o x y m b)).seq ((h.block (.inl rfl)).seq (gRun_runs hG (pdc_2 o x y z.1 z.2))))).freed (pdlo1 ..) (pdW_2 ..) rfl
theorem pdM_3_0:RunsTo Tryz.prog 26 prM (pdI 3 0 x y b m) .normal (pdI 3 1 x y (pmO o b (fun k=>x k 3) (fun k=>y k 0)).2 (setM m 3 0 (pmO o b (fun k=>x k 3) (fun k=>y k 0)).1)):=gCut_runs hG (pdm_3_0 o x y m b) (pdlo ..) (pdo_3 ..) rfl
theorem pdM_3_1:RunsTo Tryz.prog 26 prM (pdI 3 1 x y b m) .normal (pdI 3 2 x y (pmO o b (fun k=>x k 3) (fun k=>y k 1)).2 (setM m 3 1 (pmO o b (fun k=>x k 3) (fun k=>y k 1)).1)):=gCut_runs hG (pdm_3_1 o x y m b) (pdlo ..) (pdo_3 ..) rfl
theorem pdM_3_2:RunsTo Tryz.prog 26 prM (pdI 3 2 x y b m) .normal (pdI 3 3 x y (pmO o b (fun k=>x k 3) (fun k=>y k 2)).2 (setM m 3 2 (pmO o b (fun k=>x k 3) (fun k=>y k 2)).1)):=gCut_runs hG (pdm_3_2 o x y m b) (pdlo ..) (pdo_3 ..) rfl
theorem pdM_3_3:RunsTo Tryz.prog 26 prM (pdI 3 3 x y b m) .normal (pdI 3 4 x y (pmO o b (fun k=>x k 3) (fun k=>y k 3)).2 (setM m 3 3 (pmO o b (fun k=>x k 3) (fun k=>y k 3)).1)):=gCut_runs hG (pdm_3_3 o x y m b) (pdlo ..) (pdo_3 ..) rfl
theorem pdM_3_4:RunsTo Tryz.prog 26 prM (pdI 3 4 x y b m) .normal (pdI 3 5 x y (pmO o b (fun k=>x k 3) (fun k=>y k 4)).2 (setM m 3 4 (pmO o b (fun k=>x k 3) (fun k=>y k 4)).1)):=gCut_runs hG (pdm_3_4 o x y m b) (pdlo ..) (pdo_3 ..) rfl
theorem pdM_3_5:RunsTo Tryz.prog 26 prM (pdI 3 5 x y b m) .normal (pdI 3 6 x y (pmO o b (fun k=>x k 3) (fun k=>y k 5)).2 (setM m 3 5 (pmO o b (fun k=>x k 3) (fun k=>y k 5)).1)):=gCut_runs hG (pdm_3_5 o x y m b) (pdlo ..) (pdo_3 ..) rfl
theorem pdM_3_6:RunsTo Tryz.prog 26 prM (pdI 3 6 x y b m) (.exit 2) (pdJ 3 x y b m):=gCut_runs hG (pdm_3_6 o x y m b) (pdlo ..) (pdp_3 ..) rfl
theorem pdN_3:RunsTo Tryz.prog 26 (.block 2 (.loop prM)) (pdI 3 0 x y b m) .normal (pdJ 3 x y (prI_F o x y 3 (m,b)).2 (prI_F o x y 3 (m,b)).1) :=
 RunsTo.rounds (P:=Tryz.prog) (N:=26) (c:=prM) (id:=2) 6 (fun j z=>pdI 3 j x y z.2 z.1) (fun z=>pdJ 3 x y z.2 z.1) (prJ_F o x y 3)
  (fun j z hj=>match j,hj with
   | 0,_=>pdM_3_0 hG x y z.1 z.2
   | 1,_=>pdM_3_1 hG x y z.1 z.2
   | 2,_=>pdM_3_2 hG x y z.1 z.2
   | 3,_=>pdM_3_3 hG x y z.1 z.2
   | 4,_=>pdM_3_4 hG x y z.1 z.2
   | 5,_=>pdM_3_5 hG x y z.1 z.2
   | n+6,h=>absurd h (by omega))
  (fun z=>pdM_3_6 hG x y z.1 z.2) (m,b)
theorem pdR_3:RunsTo Tryz.prog 26 prL (pdO 3 x y b m) .normal (pdO 4 x y (prI_F o x y 3 (m,b)).2 (prI_F o x y 3 (m,b)).1):=by
 rw[prL_is]
 have h:=(gRun_runs hG (pdb_3 o x y m b)).seq ((gRun_runs hG (pdB_3 o x y m b)).seq (pdN_3 hG x y m b))
 generalize prI_F o x y 3 (m,b)=z at h ⊢
 exact ((gRun_runs hG (pda_3 o x y m b)).seq ((gRun_runs hG (pdA_3 o x y m b)).seq ((h.block (.inl rfl)).seq (gRun_runs hG (pdc_3 o x y z.1 z.2))))).freed (pdlo1 ..) (pdW_3 ..) rfl
theorem pdM_4_0:RunsTo Tryz.prog 26 prM (pdI 4 0 x y b m) .normal (pdI 4 1 x y (pmO o b (fun k=>x k 4) (fun k=>y k 0)).2 (setM m 4 0 (pmO o b (fun k=>x k 4) (fun k=>y k 0)).1)):=gCut_runs hG (pdm_4_0 o x y m b) (pdlo ..) (pdo_4 ..) rfl
theorem pdM_4_1:RunsTo Tryz.prog 26 prM (pdI 4 1 x y b m) .normal (pdI 4 2 x y (pmO o b (fun k=>x k 4) (fun k=>y k 1)).2 (setM m 4 1 (pmO o b (fun k=>x k 4) (fun k=>y k 1)).1)):=gCut_runs hG (pdm_4_1 o x y m b) (pdlo ..) (pdo_4 ..) rfl
theorem pdM_4_2:RunsTo Tryz.prog 26 prM (pdI 4 2 x y b m) .normal (pdI 4 3 x y (pmO o b (fun k=>x k 4) (fun k=>y k 2)).2 (setM m 4 2 (pmO o b (fun k=>x k 4) (fun k=>y k 2)).1)):=gCut_runs hG (pdm_4_2 o x y m b) (pdlo ..) (pdo_4 ..) rfl
theorem pdM_4_3:RunsTo Tryz.prog 26 prM (pdI 4 3 x y b m) .normal (pdI 4 4 x y (pmO o b (fun k=>x k 4) (fun k=>y k 3)).2 (setM m 4 3 (pmO o b (fun k=>x k 4) (fun k=>y k 3)).1)):=gCut_runs hG (pdm_4_3 o x y m b) (pdlo ..) (pdo_4 ..) rfl
theorem pdM_4_4:RunsTo Tryz.prog 26 prM (pdI 4 4 x y b m) .normal (pdI 4 5 x y (pmO o b (fun k=>x k 4) (fun k=>y k 4)).2 (setM m 4 4 (pmO o b (fun k=>x k 4) (fun k=>y k 4)).1)):=gCut_runs hG (pdm_4_4 o x y m b) (pdlo ..) (pdo_4 ..) rfl
theorem pdM_4_5:RunsTo Tryz.prog 26 prM (pdI 4 5 x y b m) .normal (pdI 4 6 x y (pmO o b (fun k=>x k 4) (fun k=>y k 5)).2 (setM m 4 5 (pmO o b (fun k=>x k 4) (fun k=>y k 5)).1)):=gCut_runs hG (pdm_4_5 o x y m b) (pdlo ..) (pdo_4 ..) rfl
theorem pdM_4_6:RunsTo Tryz.prog 26 prM (pdI 4 6 x y b m) (.exit 2) (pdJ 4 x y b m):=gCut_runs hG (pdm_4_6 o x y m b) (pdlo ..) (pdp_4 ..) rfl
theorem pdN_4:RunsTo Tryz.prog 26 (.block 2 (.loop prM)) (pdI 4 0 x y b m) .normal (pdJ 4 x y (prI_F o x y 4 (m,b)).2 (prI_F o x y 4 (m,b)).1) :=
 RunsTo.rounds (P:=Tryz.prog) (N:=26) (c:=prM) (id:=2) 6 (fun j z=>pdI 4 j x y z.2 z.1) (fun z=>pdJ 4 x y z.2 z.1) (prJ_F o x y 4)
  (fun j z hj=>match j,hj with
   | 0,_=>pdM_4_0 hG x y z.1 z.2
   | 1,_=>pdM_4_1 hG x y z.1 z.2
   | 2,_=>pdM_4_2 hG x y z.1 z.2
   | 3,_=>pdM_4_3 hG x y z.1 z.2
   | 4,_=>pdM_4_4 hG x y z.1 z.2
   | 5,_=>pdM_4_5 hG x y z.1 z.2
   | n+6,h=>absurd h (by omega))
  (fun z=>pdM_4_6 hG x y z.1 z.2) (m,b)
theorem pdR_4:RunsTo Tryz.prog 26 prL (pdO 4 x y b m) .normal (pdO 5 x y (prI_F o x y 4 (m,b)).2 (prI_F o x y 4 (m,b)).1):=by
 rw[prL_is]
 have h:=(gRun_runs hG (pdb_4 o x y m b)).seq ((gRun_runs hG (pdB_4 o x y m b)).seq (pdN_4 hG x y m b))
 generalize prI_F o x y 4 (m,b)=z at h ⊢
 exact ((gRun_runs hG (pda_4 o x y m b)).seq ((gRun_runs hG (pdA_4 o x y m b)).seq ((h.block (.inl rfl)).seq (gRun_runs hG (pdc_4 o x y z.1 z.2))))).freed (pdlo1 ..) (pdW_4 ..) rfl
theorem pdM_5_0:RunsTo Tryz.prog 26 prM (pdI 5 0 x y b m) .normal (pdI 5 1 x y (pmO o b (fun k=>x k 5) (fun k=>y k 0)).2 (setM m 5 0 (pmO o b (fun k=>x k 5) (fun k=>y k 0)).1)):=gCut_runs hG (pdm_5_0 o x y m b) (pdlo ..) (pdo_5 ..) rfl
theorem pdM_5_1:RunsTo Tryz.prog 26 prM (pdI 5 1 x y b m) .normal (pdI 5 2 x y (pmO o b (fun k=>x k 5) (fun k=>y k 1)).2 (setM m 5 1 (pmO o b (fun k=>x k 5) (fun k=>y k 1)).1)):=gCut_runs hG (pdm_5_1 o x y m b) (pdlo ..) (pdo_5 ..) rfl
theorem pdM_5_2:RunsTo Tryz.prog 26 prM (pdI 5 2 x y b m) .normal (pdI 5 3 x y (pmO o b (fun k=>x k 5) (fun k=>y k 2)).2 (setM m 5 2 (pmO o b (fun k=>x k 5) (fun k=>y k 2)).1)):=gCut_runs hG (pdm_5_2 o x y m b) (pdlo ..) (pdo_5 ..) rfl
theorem pdM_5_3:RunsTo Tryz.prog 26 prM (pdI 5 3 x y b m) .normal (pdI 5 4 x y (pmO o b (fun k=>x k 5) (fun k=>y k 3)).2 (setM m 5 3 (pmO o b (fun k=>x k 5) (fun k=>y k 3)).1)):=gCut_runs hG (pdm_5_3 o x y m b) (pdlo ..) (pdo_5 ..) rfl
theorem pdM_5_4:RunsTo Tryz.prog 26 prM (pdI 5 4 x y b m) .normal (pdI 5 5 x y (pmO o b (fun k=>x k 5) (fun k=>y k 4)).2 (setM m 5 4 (pmO o b (fun k=>x k 5) (fun k=>y k 4)).1)):=gCut_runs hG (pdm_5_4 o x y m b) (pdlo ..) (pdo_5 ..) rfl
theorem pdM_5_5:RunsTo Tryz.prog 26 prM (pdI 5 5 x y b m) .normal (pdI 5 6 x y (pmO o b (fun k=>x k 5) (fun k=>y k 5)).2 (setM m 5 5 (pmO o b (fun k=>x k 5) (fun k=>y k 5)).1)):=gCut_runs hG (pdm_5_5 o x y m b) (pdlo ..) (pdo_5 ..) rfl
theorem pdM_5_6:RunsTo Tryz.prog 26 prM (pdI 5 6 x y b m) (.exit 2) (pdJ 5 x y b m):=gCut_runs hG (pdm_5_6 o x y m b) (pdlo ..) (pdp_5 ..) rfl
theorem pdN_5:RunsTo Tryz.prog 26 (.block 2 (.loop prM)) (pdI 5 0 x y b m) .normal (pdJ 5 x y (prI_F o x y 5 (m,b)).2 (prI_F o x y 5 (m,b)).1) :=
 RunsTo.rounds (P:=Tryz.prog) (N:=26) (c:=prM) (id:=2) 6 (fun j z=>pdI 5 j x y z.2 z.1) (fun z=>pdJ 5 x y z.2 z.1) (prJ_F o x y 5)
  (fun j z hj=>match j,hj with
   | 0,_=>pdM_5_0 hG x y z.1 z.2
   | 1,_=>pdM_5_1 hG x y z.1 z.2
   | 2,_=>pdM_5_2 hG x y z.1 z.2
   | 3,_=>pdM_5_3 hG x y z.1 z.2
   | 4,_=>pdM_5_4 hG x y z.1 z.2
   | 5,_=>pdM_5_5 hG x y z.1 z.2
   | n+6,h=>absurd h (by omega))
  (fun z=>pdM_5_6 hG x y z.1 z.2) (m,b)
theorem pdR_5:RunsTo Tryz.prog 26 prL (pdO 5 x y b m) .normal (pdO 6 x y (prI_F o x y 5 (m,b)).2 (prI_F o x y 5 (m,b)).1):=by
 rw[prL_is]
 have h:=(gRun_runs hG (pdb_5 o x y m b)).seq ((gRun_runs hG (pdB_5 o x y m b)).seq (pdN_5 hG x y m b))
 generalize prI_F o x y 5 (m,b)=z at h ⊢
 exact ((gRun_runs hG (pda_5 o x y m b)).seq ((gRun_runs hG (pdA_5 o x y m b)).seq ((h.block (.inl rfl)).seq (gRun_runs hG (pdc_5 o x y z.1 z.2))))).freed (pdlo1 ..) (pdW_5 ..) rfl
theorem pdX:RunsTo Tryz.prog 26 prL (pdO 6 x y b m) (.exit 0) (prS [] (pdH x y b m []) nF):=gCut_runs hG (pdx o x y m b) (pdlo1 ..) (pdy ..) rfl
theorem pdL:RunsTo Tryz.prog 26 (.block 0 (.loop prL)) (pdO 0 x y b m) .normal (prS [] (pdH x y (iterF (prI_F o x y) 0 6 (m,b)).2 (iterF (prI_F o x y) 0 6 (m,b)).1 []) nF) :=
 RunsTo.rounds (P:=Tryz.prog) (N:=26) (c:=prL) (id:=0) 6 (fun i z=>pdO i x y z.2 z.1) (fun z=>prS [] (pdH x y z.2 z.1 []) nF) (prI_F o x y)
  (fun i z hi=>match i,hi with
   | 0,_=>pdR_0 hG x y z.1 z.2
   | 1,_=>pdR_1 hG x y z.1 z.2
   | 2,_=>pdR_2 hG x y z.1 z.2
   | 3,_=>pdR_3 hG x y z.1 z.2
   | 4,_=>pdR_4 hG x y z.1 z.2
   | 5,_=>pdR_5 hG x y z.1 z.2
   | n+6,h=>absurd h (by omega))
  (fun z=>pdX hG x y z.1 z.2) (m,b)
omit m in
theorem pd_runs:RunsTo Tryz.prog 26 prC (startS 26 [.ptr 0 0,.ptr 1 0,.ptr 2 0] [.row 57 [.val (.bool b)],.row 112 (cells13 x),.row 112 (cells13 y)]) .ret (pdF x y (prodO o b x y).2 (prodO o b x y).1):=by
 have hc:prC=.seq pr0 (.seq pr1 (.seq (.seq pr2 (.block 0 (.loop prL))) prE)):=by
  unfold prC
  rw[prC_is]
  rfl
 rw[hc]
 have hL:=pdL hG x y mx0 b
 unfold prodO
 generalize iterF (prI_F o x y) 0 6 (mx0,b)=z at hL ⊢
 exact (gRun_runs hG (pd0 o x y b)).seq ((gRun_runs hG (pd1 o x y b)).seq (((gRun_runs hG (pd2 o x y b)).seq hL).seq (gRun_runs hG (pde o x y z.1 z.2))))
end
end Go.Ab
