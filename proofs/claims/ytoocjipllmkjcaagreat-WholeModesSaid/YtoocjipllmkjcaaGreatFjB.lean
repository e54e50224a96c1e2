/- A part of the proof of 'WholeModes': lemmas, no statement of their own; no condition. -/
import Derived.Test.YtoocjipllmkjcaaGreatFjB0
namespace Go.Ab
open Go Go.Proofs
def psH(x:Mx)(b:Bool)(m:Mx)(e:List (Nat×Con)):Hp:=[(0,.row 57 [.val (.bool b)]),(1,.row 112 (cells13 x)),(nA,.row 55 [.ptr 0 0]),(nB,.row 121 [.ptr 1 0]),(nC,.row 121 [.ptr 1 0]),(nD,.row 40 (cells36 mx0)),(nE,.row 40 (cells36 m))]++e
abbrev psK:List Nat:=[0,1,nA,nB,nC,nD,nE]
def psO(i:Int)(x:Mx)(b:Bool)(m:Mx):St:=prS [(10,.val (.int .i64 i))] (psH x b m []) nF
def psI(i j:Int)(x:Mx)(b:Bool)(m:Mx):St:=prS [(8,.ptr nF 0),(10,.val (.int .i64 i)),(13,.val (.int .i64 j))] (psH x b m [(nF,.row 3 [.val (.int .i64 i)])]) nG
def psJ(i:Int)(x:Mx)(b:Bool)(m:Mx):St:=prS [(8,.ptr nF 0),(10,.val (.int .i64 i))] (psH x b m [(nF,.row 3 [.val (.int .i64 i)])]) nG
def psF(x:Mx)(b:Bool)(m:Mx):St:=gSt 26 [(6,.ptr nD 0)] [(0,.row 57 [.val (.bool b)]),(1,.row 112 (cells13 x)),(nD,.row 40 (cells36 m))] nF
section
variable (o:Ops) (x m:Mx) (b:Bool)
theorem ps0:gRun Tryz.prog {gam:=gamN o} 26 pr0 (startS 26 [.ptr 0 0,.ptr 1 0,.ptr 1 0] [.row 57 [.val (.bool b)],.row 112 (cells13 x)]) [0,1,nA,nB,nC,nD] [3,4,5,6]=some (.normal,gSt 26 [(3,.ptr nA 0),(4,.ptr nB 0),(5,.ptr nC 0),(6,.ptr nD 0)] [(0,.row 57 [.val (.bool b)]),(1,.row 112 (cells13 x)),(nA,.row 55 [.ptr 0 0]),(nB,.row 121 [.ptr 1 0]),(nC,.row 121 [.ptr 1 0]),(nD,.row 40 (cells36 mx0))] nE):=by kernel_rfl
def psQ(x:Mx)(b:Bool):St:=gSt 26 [(3,.ptr nA 0),(4,.ptr nB 0),(5,.ptr nC 0),(6,.ptr nD 0)] [(0,.row 57 [.val (.bool b)]),(1,.row 112 (cells13 x)),(nA,.row 55 [.ptr 0 0]),(nB,.row 121 [.ptr 1 0]),(nC,.row 121 [.ptr 1 0]),(nD,.row 40 (cells36 mx0))] nE
theorem ps1:gRun Tryz.prog {gam:=gamN o} 26 pr1 (psQ x b) psK (prT [])=some (.normal,prS [] (psH x b mx0 []) nF):=by kernel_rfl
theorem ps2:gRun Tryz.prog {gam:=gamN o} 26 pr2 (prS [] (psH x b mx0 []) nF) psK (prT [10])=some (.normal,psO 0 x b mx0):=by kernel_rfl
def psU_0(x:Mx)(b:Bool)(m:Mx):St:=prS [(10,.val (.int .i64 0)),(11,.val (.bool true))] (psH x b m []) nF
theorem psa_0:gRun Tryz.prog {gam:=gamN o} 26 pr3 (psO 0 x b m) psK (prT [10,11])=some (.normal,psU_0 x b m):=by kernel_rfl
theorem psA_0:gRun Tryz.prog {gam:=gamN o} 26 pr3b (psU_0 x b m) psK (prT [10])=some (.normal,psO 0 x b m):=by kernel_rfl
theorem psb_0:gRun Tryz.prog {gam:=gamN o} 26 pr4 (psO 0 x b m) (psK++[nF]) (prT [8,10])=some (.normal,psJ 0 x b m):=by kernel_rfl
theorem psB_0:gRun Tryz.prog {gam:=gamN o} 26 pr5 (psJ 0 x b m) (psK++[nF]) (prT [8,10,13])=some (.normal,psI 0 0 x b m):=by kernel_rfl
theorem psm_0_0:gCut Tryz.prog {gam:=gamN o} 26 prM (psI 0 0 x b m) nG (psK++[nF]) (prT [8,10,13])=some (.normal,psI 0 1 x (pmO o b (fun k=>x k 0) (fun k=>x k 0)).2 (setM m 0 0 (pmO o b (fun k=>x k 0) (fun k=>x k 0)).1)):=by kernel_rfl
theorem psm_0_1:gCut Tryz.prog {gam:=gamN o} 26 prM (psI 0 1 x b m) nG (psK++[nF]) (prT [8,10,13])=some (.normal,psI 0 2 x (pmO o b (fun k=>x k 0) (fun k=>x k 1)).2 (setM m 0 1 (pmO o b (fun k=>x k 0) (fun k=>x k 1)).1)):=by kernel_rfl
theorem psm_0_2:gCut Tryz.prog {gam:=gamN o} 26 prM (psI 0 2 x b m) nG (psK++[nF]) (prT [8,10,13])=some (.normal,psI 0 3 x (pmO o b (fun k=>x k 0) (fun k=>x k 2)).2 (setM m 0 2 (pmO o b (fun k=>x k 0) (fun k=>x k 2)).1)):=by kernel_rfl
theorem psm_0_3:gCut Tryz.prog {gam:=gamN o} 26 prM (psI 0 3 x b m) nG (psK++[nF]) (prT [8,10,13])=some (.normal,psI 0 4 x (pmO o b (fun k=>x k 0) (fun k=>x k 3)).2 (setM m 0 3 (pmO o b (fun k=>x k 0) (fun k=>x k 3)).1)):=by kernel_rfl
theorem psm_0_4:gCut Tryz.prog {gam:=gamN o} 26 prM (psI 0 4 x b m) nG (psK++[nF]) (prT [8,10,13])=some (.normal,psI 0 5 x (pmO o b (fun k=>x k 0) (fun k=>x k 4)).2 (setM m 0 4 (pmO o b (fun k=>x k 0) (fun k=>x k 4)).1)):=by kernel_rfl
theorem psm_0_5:gCut Tryz.prog {gam:=gamN o} 26 prM (psI 0 5 x b m) nG (psK++[nF]) (prT [8,10,13])=some (.normal,psI 0 6 x (pmO o b (fun k=>x k 0) (fun k=>x k 5)).2 (setM m 0 5 (pmO o b (fun k=>x k 0) (fun k=>x k 5)).1)):=by kernel_rfl
theorem psm_0_6:gCut Tryz.prog {gam:=gamN o} 26 prM (psI 0 6 x b m) nG (psK++[nF]) (prT [8,10])=some (.exit 2,psJ 0 x b m):=by kernel_rfl
theorem psc_0:gRun Tryz.prog {gam:=gamN o} 26 pr10 (psJ 0 x b m) psK (prT [10])=some (.normal,{psO 1 x b m with lo:=nG}):=by kernel_rfl
theorem pso_0(j:Int):okClean nG (psI 0 j x b m)=true:=by kernel_rfl
theorem psp_0:okClean nG (psJ 0 x b m)=true:=by kernel_rfl
def psU_1(x:Mx)(b:Bool)(m:Mx):St:=prS [(10,.val (.int .i64 1)),(11,.val (.bool true))] (psH x b m []) nF
theorem psa_1:gRun Tryz.prog {gam:=gamN o} 26 pr3 (psO 1 x b m) psK (prT [10,11])=some (.normal,psU_1 x b m):=by kernel_rfl
theorem psA_1:gRun Tryz.prog {gam:=gamN o} 26 pr3b (psU_1 x b m) psK (prT [10])=some (.normal,psO 1 x b m):=by kernel_rfl
theorem psb_1:gRun Tryz.prog {gam:=gamN o} 26 pr4 (psO 1 x b m) (psK++[nF]) (prT [8,10])=some (.normal,psJ 1 x b m):=by kernel_rfl
theorem psB_1:gRun Tryz.prog {gam:=gamN o} 26 pr5 (psJ 1 x b m) (psK++[nF]) (prT [8,10,13])=some (.normal,psI 1 0 x b m):=by kernel_rfl
theorem psm_1_0:gCut Tryz.prog {gam:=gamN o} 26 prM (psI 1 0 x b m) nG (psK++[nF]) (prT [8,10,13])=some (.normal,psI 1 1 x (pmO o b (fun k=>x k 1) (fun k=>x k 0)).2 (setM m 1 0 (pmO o b (fun k=>x k 1) (fun k=>x k 0)).1)):=by kernel_rfl
theorem psm_1_1:gCut Tryz.prog {gam:=gamN o} 26 prM (psI 1 1 x b m) nG (psK++[nF]) (prT [8,10,13])=some (.normal,psI 1 2 x (pmO o b (fun k=>x k 1) (fun k=>x k 1)).2 (setM m 1 1 (pmO o b (fun k=>x k 1) (fun k=>x k 1)).1)):=by kernel_rfl
theorem psm_1_2:gCut Tryz.prog {gam:=gamN o} 26 prM (psI 1 2 x b m) nG (psK++[nF]) (prT [8,10,13])=some (.normal,psI 1 3 x (pmO o b (fun k=>x k 1) (fun k=>x k 2)).2 (setM m 1 2 (pmO o b (fun k=>x k 1) (fun k=>x k 2)).1)):=by kernel_rfl
theorem psm_1_3:gCut Tryz.prog {gam:=gamN o} 26 prM (psI 1 3 x b m) nG (psK++[nF]) (prT [8,10,13])=some (.normal,psI 1 4 x (pmO o b (fun k=>x k 1) (fun k=>x k 3)).2 (setM m 1 3 (pmO o b (fun k=>x k 1) (fun k=>x k 3)).1)):=by kernel_rfl
theorem psm_1_4:gCut Tryz.prog {gam:=gamN o} 26 prM (psI 1 4 x b m) nG (psK++[nF]) (prT [8,10,13])=some (.normal,psI 1 5 x (pmO o b (fun k=>x k 1) (fun k=>x k 4)).2 (setM m 1 4 (pmO o b (fun k=>x k 1) (fun k=>x k 4)).1)):=by kernel_rfl
theorem psm_1_5:gCut Tryz.prog {gam:=gamN o} 26 prM (psI 1 5 x b m) nG (psK++[nF]) (prT [8,10,13])=some (.normal,psI 1 6 x (pmO o b (fun k=>x k 1) (fun k=>x k 5)).2 (setM m 1 5 (pmO o b (fun k=>x k 1) (fun k=>x k 5)).1)):=by kernel_rfl
theorem psm_1_6:gCut Tryz.prog {gam:=gamN o} 26 prM (psI 1 6 x b m) nG (psK++[nF]) (prT [8,10])=some (.exit 2,psJ 1 x b m):=by kernel_rfl
theorem psc_1:gRun Tryz.prog {gam:=gamN o} 26 pr10 (psJ 1 x b m) psK (prT [10])=some (.normal,{psO 2 x b m with lo:=nG}):=by kernel_rfl
theorem pso_1(j:Int):okClean nG (psI 1 j x b m)=true:=by kernel_rfl
theorem psp_1:okClean nG (psJ 1 x b m)=true:=by kernel_rfl
def psU_2(x:Mx)(b:Bool)(m:Mx):St:=prS [(10,.val (.int .i64 2)),(11,.val (.bool true))] (psH x b m []) nF
theorem psa_2:gRun Tryz.prog {gam:=gamN o} 26 pr3 (psO 2 x b m) psK (prT [10,11])=some (.normal,psU_2 x b m):=by kernel_rfl
theorem psA_2:gRun Tryz.prog {gam:=gamN o} 26 pr3b (psU_2 x b m) psK (prT [10])=some (.normal,psO 2 x b m):=by kernel_rfl
theorem psb_2:gRun Tryz.prog {gam:=gamN o} 26 pr4 (psO 2 x b m) (psK++[nF]) (prT [8,10])=some (.normal,psJ 2 x b m):=by kernel_rfl
theorem psB_2:gRun Tryz.prog {gam:=gamN o} 26 pr5 (psJ 2 x b m) (psK++[nF]) (prT [8,10,13])=some (.normal,psI 2 0 x b m):=by kernel_rfl
theorem psm_2_0:gCut Tryz.prog {gam:=gamN o} 26 prM (psI 2 0 x b m) nG (psK++[nF]) (prT [8,10,13])=some (.normal,psI 2 1 x (pmO o b (fun k=>x k 2) (fun k=>x k 0)).2 (setM m 2 0 (pmO o b (fun k=>x k 2) (fun k=>x k 0)).1)):=by kernel_rfl
theorem psm_2_1:gCut Tryz.prog {gam:=gamN o} 26 prM (psI 2 1 x b m) nG (psK++[nF]) (prT [8,10,13])=some (.normal,psI 2 2 x (pmO o b (fun k=>x k 2) (fun k=>x k 1)).2 (setM m 2 1 (pmO o b (fun k=>x k 2) (fun k=>x k 1)).1)):=by kernel_rfl
theorem psm_2_2:gCut Tryz.prog {gam:=gamN o} 26 prM (psI 2 2 x b m) nG (psK++[nF]) (prT [8,10,13])=some (.normal,psI 2 3 x (pmO o b (fun k=>x k 2) (fun k=>x k 2)).2 (setM m 2 2 (pmO o b (fun k=>x k 2) (fun k=>x k 2)).1)):=by kernel_rfl
theorem psm_2_3:gCut Tryz.prog {gam:=gamN o} 26 prM (psI 2 3 x b m) nG (psK++[nF]) (prT [8,10,13])=some (.normal,psI 2 4 x (pmO o b (fun k=>x k 2) (fun k=>x k 3)).2 (setM m 2 3 (pmO o b (fun k=>x k 2) (fun k=>x k 3)).1)):=by kernel_rfl
theorem psm_2_4:gCut Tryz.prog {gam:=gamN o} 26 prM (psI 2 4 x b m) nG (psK++[nF]) (prT [8,10,13])=some (.normal,psI 2 5 x (pmO o b (fun k=>x k 2) (fun k=>x k 4)).2 (setM m 2 4 (pmO o b (fun k=>x k 2) (fun k=>x k 4)).1)):=by kernel_rfl
theorem psm_2_5:gCut Tryz.prog {gam:=gamN o} 26 prM (psI 2 5 x b m) nG (psK++[nF]) (prT [8,10,13])=some (.normal,psI 2 6 x (pmO o b (fun k=>x k 2) (fun k=>x k 5)).2 (setM m 2 5 (pmO o b (fun k=>x k 2) (fun k=>x k 5)).1)):=by kernel_rfl
theorem psm_2_6:gCut Tryz.prog {gam:=gamN o} 26 prM (psI 2 6 x b m) nG (psK++[nF]) (prT [8,10])=some (.exit 2,psJ 2 x b m):=by kernel_rfl
theorem psc_2:gRun Tryz.prog {gam:=gamN o} 26 pr10 (psJ 2 x b m) psK (prT [10])=some (.normal,{psO 3 x b m with lo:=nG}):=by kernel_rfl
theorem pso_2(j:Int):okClean nG (psI 2 j x b m)=true:=by kernel_rfl
theorem psp_2:okClean nG (psJ 2 x b m)=true:=by kernel_rfl
def psU_3(x:Mx)(b:Bool)(m:Mx):St:=prS [(10,.val (.int .i64 3)),(11,.val (.bool true))] (psH x b m []) nF
theorem psa_3:gRun Tryz.prog {gam:=gamN o} 26 pr3 (psO 3 x b m) psK (prT [10,11])=some (.normal,psU_3 x b m):=by kernel_rfl
theorem psA_3:gRun Tryz.prog {gam:=gamN o} 26 pr3b (psU_3 x b m) psK (prT [10])=some (.normal,psO 3 x b m):=by kernel_rfl
theorem psb_3:gRun Tryz.prog {gam:=gamN o} 26 pr4 (psO 3 x b m) (psK++[nF]) (prT [8,10])=some (.normal,psJ 3 x b m):=by kernel_rfl
theorem psB_3:gRun Tryz.prog {gam:=gamN o} 26 pr5 (psJ 3 x b m) (psK++[nF]) (prT [8,10,13])=some (.normal,psI 3 0 x b m):=by kernel_rfl
theorem psm_3_0:gCut Tryz.prog {gam:=gamN o} 26 prM (psI 3 0 x b m) nG (psK++[nF]) (prT [8,10,13])=some (.normal,psI 3 1 x (pmO o b (fun k=>x k 3) (fun k=>x k 0)).2 (setM m 3 0 (pmO o b (fun k=>x k 3) (fun k=>x k 0)).1)):=by kernel_rfl
theorem psm_3_1:gCut Tryz.prog {gam:=gamN o} 26 prM (psI 3 1 x b m) nG (psK++[nF]) (prT [8,10,13])=some (.normal,psI 3 2 x (pmO o b (fun k=>x k 3) (fun k=>x k 1)).2 (setM m 3 1 (pmO o b (fun k=>x k 3) (fun k=>x k 1)).1)):=by kernel_rfl
theorem psm_3_2:gCut Tryz.prog {gam:=gamN o} 26 prM (psI 3 2 x b m) nG (psK++[nF]) (prT [8,10,13])=some (.normal,psI 3 3 x (pmO o b (fun k=>x k 3) (fun k=>x k 2)).2 (setM m 3 2 (pmO o b (fun k=>x k 3) (fun k=>x k 2)).1)):=by kernel_rfl
theorem psm_3_3:gCut Tryz.prog {gam:=gamN o} 26 prM (psI 3 3 x b m) nG (psK++[nF]) (prT [8,10,13])=some (.normal,psI 3 4 x (pmO o b (fun k=>x k 3) (fun k=>x k 3)).2 (setM m 3 3 (pmO o b (fun k=>x k 3) (fun k=>x k 3)).1)):=by kernel_rfl
theorem psm_3_4:gCut Tryz.prog {gam:=gamN o} 26 prM (psI 3 4 x b m) nG (psK++[nF]) (prT [8,10,13])=some (.normal,psI 3 5 x (pmO o b (fun k=>x k 3) (fun k=>x k 4)).2 (setM m 3 4 (pmO o b (fun k=>x k 3) (fun k=>x k 4)).1)):=by kernel_rfl
theorem psm_3_5:gCut Tryz.prog {gam:=gamN o} 26 prM (psI 3 5 x b m) nG (psK++[nF]) (prT [8,10,13])=some (.normal,psI 3 6 x (pmO o b (fun k=>x k 3) (fun k=>x k 5)).2 (setM m 3 5 (pmO o b (fun k=>x k 3) (fun k=>x k 5)).1)):=by kernel_rfl
theorem psm_3_6:gCut Tryz.prog {gam:=gamN o} 26 prM (psI 3 6 x b m) nG (psK++[nF]) (prT [8,10])=some (.exit 2,psJ 3 x b m):=by kernel_rfl
theorem psc_3:gRun Tryz.prog {gam:=gamN o} 26 pr10 (psJ 3 x b m) psK (prT [10])=some (.normal,{psO 4 x b m with lo:=nG}):=by kernel_rfl
theorem pso_3(j:Int):okClean nG (psI 3 j x b m)=true:=by kernel_rfl
theorem psp_3:okClean nG (psJ 3 x b m)=true:=by kernel_rfl
def psU_4(x:Mx)(b:Bool)(m:Mx):St:=prS [(10,.val (.int .i64 4)),(11,.val (.bool true))] (psH x b m []) nF
theorem psa_4:gRun Tryz.prog {gam:=gamN o} 26 pr3 (psO 4 x b m) psK (prT [10,11])=some (.normal,psU_4 x b m):=by kernel_rfl
theorem psA_4:gRun Tryz.prog {gam:=gamN o} 26 pr3b (psU_4 x b m) psK (prT [10])=some (.normal,psO 4 x b m):=by kernel_rfl
theorem psb_4:gRun Tryz.prog {gam:=gamN o} 26 pr4 (psO 4 x b m) (psK++[nF]) (prT [8,10])=some (.normal,psJ 4 x b m):=by kernel_rfl
theorem psB_4:gRun Tryz.prog {gam:=gamN o} 26 pr5 (psJ 4 x b m) (psK++[nF]) (prT [8,10,13])=some (.normal,psI 4 0 x b m):=by kernel_rfl
theorem psm_4_0:gCut Tryz.prog {gam:=gamN o} 26 prM (psI 4 0 x b m) nG (psK++[nF]) (prT [8,10,13])=some (.normal,psI 4 1 x (pmO o b (fun k=>x k 4) (fun k=>x k 0)).2 (setM m 4 0 (pmO o b (fun k=>x k 4) (fun k=>x k 0)).1)):=by kernel_rfl
theorem psm_4_1:gCut Tryz.prog {gam:=gamN o} 26 prM (psI 4 1 x b m) nG (psK++[nF]) (prT [8,10,13])=some (.normal,psI 4 2 x (pmO o b (fun k=>x k 4) (fun k=>x k 1)).2 (setM m 4 1 (pmO o b (fun k=>x k 4) (fun k=>x k 1)).1)):=by kernel_rfl
theorem psm_4_2:gCut Tryz.prog {gam:=gamN o} 26 prM (psI 4 2 x b m) nG (psK++[nF]) (prT [8,10,13])=some (.normal,psI 4 3 x (pmO o b (fun k=>x k 4) (fun k=>x k 2)).2 (setM m 4 2 (pmO o b (fun k=>x k 4) (fun k=>x k 2)).1)):=by kernel_rfl
theorem psm_4_3:gCut Tryz.prog {gam:=gamN o} 26 prM (psI 4 3 x b m) nG (psK++[nF]) (prT [8,10,13])=some (.normal,psI 4 4 x (pmO o b (fun k=>x k 4) (fun k=>x k 3)).2 (setM m 4 3 (pmO o b (fun k=>x k 4) (fun k=>x k 3)).1)):=by kernel_rfl
theorem psm_4_4:gCut Tryz.prog {gam:=gamN o} 26 prM (psI 4 4 x b m) nG (psK++[nF]) (prT [8,10,13])=some (.normal,psI 4 5 x (pmO o b (fun k=>x k 4) (fun k=>x k 4)).2 (setM m 4 4 (pmO o b (fun k=>x k 4) (fun k=>x k 4)).1)):=by kernel_rfl
theorem psm_4_5:gCut Tryz.prog {gam:=gamN o} 26 prM (psI 4 5 x b m) nG (psK++[nF]) (prT [8,10,13])=some (.normal,psI 4 6 x (pmO o b (fun k=>x k 4) (fun k=>x k 5)).2 (setM m 4 5 (pmO o b (fun k=>x k 4) (fun k=>x k 5)).1)):=by kernel_rfl
theorem psm_4_6:gCut Tryz.prog {gam:=gamN o} 26 prM (psI 4 6 x b m) nG (psK++[nF]) (prT [8,10])=some (.exit 2,psJ 4 x b m):=by kernel_rfl
theorem psc_4:gRun Tryz.prog {gam:=gamN o} 26 pr10 (psJ 4 x b m) psK (prT [10])=some (.normal,{psO 5 x b m with lo:=nG}):=by kernel_rfl
theorem pso_4(j:Int):okClean nG (psI 4 j x b m)=true:=by kernel_rfl
theorem psp_4:okClean nG (psJ 4 x b m)=true:=by kernel_rfl
def psU_5(x:Mx)(b:Bool)(m:Mx):St:=prS [(10,.val (.int .i64 5)),(11,.val (.bool true))] (psH x b m []) nF
theorem psa_5:gRun Tryz.prog {gam:=gamN o} 26 pr3 (psO 5 x b m) psK (prT [10,11])=some (.normal,psU_5 x b m):=by kernel_rfl
theorem psA_5:gRun Tryz.prog {gam:=gamN o} 26 pr3b (psU_5 x b m) psK (prT [10])=some (.normal,psO 5 x b m):=by kernel_rfl
theorem psb_5:gRun Tryz.prog {gam:=gamN o} 26 pr4 (psO 5 x b m) (psK++[nF]) (prT [8,10])=some (.normal,psJ 5 x b m):=by kernel_rfl
theorem psB_5:gRun Tryz.prog {gam:=gamN o} 26 pr5 (psJ 5 x b m) (psK++[nF]) (prT [8,10,13])=some (.normal,psI 5 0 x b m):=by kernel_rfl
theorem psm_5_0:gCut Tryz.prog {gam:=gamN o} 26 prM (psI 5 0 x b m) nG (psK++[nF]) (prT [8,10,13])=some (.normal,psI 5 1 x (pmO o b (fun k=>x k 5) (fun k=>x k 0)).2 (setM m 5 0 (pmO o b (fun k=>x k 5) (fun k=>x k 0)).1)):=by kernel_rfl
theorem psm_5_1:gCut Tryz.prog {gam:=gamN o} 26 prM (psI 5 1 x b m) nG (psK++[nF]) (prT [8,10,13])=some (.normal,psI 5 2 x (pmO o b (fun k=>x k 5) (fun k=>x k 1)).2 (setM m 5 1 (pmO o b (fun k=>x k 5) (fun k=>x k 1)).1)):=by kernel_rfl
theorem psm_5_2:gCut Tryz.prog {gam:=gamN o} 26 prM (psI 5 2 x b m) nG (psK++[nF]) (prT [8,10,13])=some (.normal,psI 5 3 x (pmO o b (fun k=>x k 5) (fun k=>x k 2)).2 (setM m 5 2 (pmO o b (fun k=>x k 5) (fun k=>x k 2)).1)):=by kernel_rfl
theorem psm_5_3:gCut Tryz.prog {gam:=gamN o} 26 prM (psI 5 3 x b m) nG (psK++[nF]) (prT [8,10,13])=some (.normal,psI 5 4 x (pmO o b (fun k=>x k 5) (fun k=>x k 3)).2 (setM m 5 3 (pmO o b (fun k=>x k 5) (fun k=>x k 3)).1)):=by kernel_rfl
theorem psm_5_4:gCut Tryz.prog {gam:=gamN o} 26 prM (psI 5 4 x b m) nG (psK++[nF]) (prT [8,10,13])=some (.normal,psI 5 5 x (pmO o b (fun k=>x k 5) (fun k=>x k 4)).2 (setM m 5 4 (pmO o b (fun k=>x k 5) (fun k=>x k 4)).1)):=by kernel_rfl
theorem psm_5_5:gCut Tryz.prog {gam:=gamN o} 26 prM (psI 5 5 x b m) nG (psK++[nF]) (prT [8,10,13])=some (.normal,psI 5 6 x (pmO o b (fun k=>x k 5) (fun k=>x k 5)).2 (setM m 5 5 (pmO o b (fun k=>x k 5) (fun k=>x k 5)).1)):=by kernel_rfl
theorem psm_5_6:gCut Tryz.prog {gam:=gamN o} 26 prM (psI 5 6 x b m) nG (psK++[nF]) (prT [8,10])=some (.exit 2,psJ 5 x b m):=by kernel_rfl
theorem psc_5:gRun Tryz.prog {gam:=gamN o} 26 pr10 (psJ 5 x b m) psK (prT [10])=some (.normal,{psO 6 x b m with lo:=nG}):=by kernel_rfl
theorem pso_5(j:Int):okClean nG (psI 5 j x b m)=true:=by kernel_rfl
theorem psp_5:okClean nG (psJ 5 x b m)=true:=by kernel_rfl
theorem psW_0:okClean nF ({psO 1 x b m with lo:=nG}:St)=true:=by kernel_rfl
theorem psW_1:okClean nF ({psO 2 x b m with lo:=nG}:St)=true:=by kernel_rfl
theorem psW_2:okClean nF ({psO 3 x b m with lo:=nG}:St)=true:=by kernel_rfl
theorem psW_3:okClean nF ({psO 4 x b m with lo:=nG}:St)=true:=by kernel_rfl
theorem psW_4:okClean nF ({psO 5 x b m with lo:=nG}:St)=true:=by kernel_rfl
theorem psW_5:okClean nF ({psO 6 x b m with lo:=nG}:St)=true:=by kernel_rfl
theorem psx:gCut Tryz.prog {gam:=gamN o} 26 prL (psO 6 x b m) nF psK (prT [])=some (.exit 0,prS [] (psH x b m []) nF):=by kernel_rfl
theorem psy:okClean nF (prS [] (psH x b m []) nF)=true:=by kernel_rfl
theorem pse:gRun Tryz.prog {gam:=gamN o} 26 prE (prS [] (psH x b m []) nF) [0,1,nD] [6]=some (.ret,psF x b m):=by kernel_rfl
theorem psr:resA Tryz.prog (psF x b m) Tryz.f58.results.toList=some [.val (Cod.enc (M6.of m))]:=by kernel_rfl
end
section
variable {o:Ops} (hG:GamOk Tryz.prog ({gam:=gamN o}:Env).gam) (x m:Mx) (b:Bool)
include hG
omit hG in
theorem pslo(i j:Int):(psI i j x b m).lo=nG:=rfl
omit hG in
theorem pslo1(i:Int):(psO i x b m).lo=nF:=rfl
theorem psM_0_0:RunsTo Tryz.prog 26 prM (psI 0 0 x b m) .normal (psI 0 1 x (pmO o b (fun k=>x k 0) (fun k=>x k 0)).2 (setM m 0 0 (pmO o b (fun k=>x k 0) (fun k=>x k 0)).1)):=gCut_runs hG (psm_0_0 o x m b) (pslo ..) (pso_0 ..) rfl
theorem psM_0_1:RunsTo Tryz.prog 26 prM (psI 0 1 x b m) .normal (psI 0 2 x (pmO o b (fun k=>x k 0) (fun k=>x k 1)).2 (setM m 0 1 (pmO o b (fun k=>x k 0) (fun k=>x k 1)).1)):=gCut_runs hG (psm_0_1 o x m b) (pslo ..) (pso_0 ..) rfl
theorem psM_0_2:RunsTo Tryz.prog 26 prM (psI 0 2 x b m) .normal (psI 0 3 x (pmO o b (fun k=>x k 0) (fun k=>x k 2)).2 (setM m 0 2 (pmO o b (fun k=>x k 0) (fun k=>x k 2)).1)):=gCut_runs hG (psm_0_2 o x m b) (pslo ..) (pso_0 ..) rfl
theorem psM_0_3:RunsTo Tryz.prog 26 prM (psI 0 3 x b m) .normal (psI 0 4 x (pmO o b (fun k=>x k 0) (fun k=>x k 3)).2 (setM m 0 3 (pmO o b (fun k=>x k 0) (fun k=>x k 3)).1)):=gCut_runs hG (psm_0_3 o x m b) (pslo ..) (pso_0 ..) rfl
theorem psM_0_4:RunsTo Tryz.prog 26 prM (psI 0 4 x b m) .normal (psI 0 5 x (pmO o b (fun k=>x k 0) (fun k=>x k 4)).2 (setM m 0 4 (pmO o b (fun k=>x k 0) (fun k=>x k 4)).1)):=gCut_runs hG (psm_0_4 o x m b) (pslo ..) (pso_0 ..) rfl
theorem psM_0_5:RunsTo Tryz.prog 26 prM (psI 0 5 x b m) .normal (psI 0 6 x (pmO o b (fun k=>x k 0) (fun k=>x k 5)).2 (setM m 0 5 (pmO o b (fun k=>x k 0) (fun k=>x k 5)).1)):=gCut_runs hG (psm_0_5 o x m b) (pslo ..) (pso_0 ..) rfl
theorem psM_0_6:RunsTo Tryz.prog 26 prM (psI 0 6 x b m) (.exit 2) (psJ 0 x b m):=gCut_runs hG (psm_0_6 o x m b) (pslo ..) (psp_0 ..) rfl
theorem psN_0:RunsTo Tryz.prog 26 (.block 2 (.loop prM)) (psI 0 0 x b m) .normal (psJ 0 x (prI_F o x x 0 (m,b)).2 (prI_F o x x 0 (m,b)).1) :=
 RunsTo.rounds (P:=Tryz.prog) (N:=26) (c:=prM) (id:=2) 6 (fun j z=>psI 0 j x z.2 z.1) (fun z=>psJ 0 x z.2 z.1) (prJ_F o x x 0)
  (fun j z hj=>match j,hj with
   | 0,_=>psM_0_0 hG x z.1 z.2
   | 1,_=>psM_0_1 hG x z.1 z.2
   | 2,_=>psM_0_2 hG x z.1 z.2
   | 3,_=>psM_0_3 hG x z.1 z.2
   | 4,_=>psM_0_4 hG x z.1 z.2
   | 5,_=>psM_0_5 hG x z.1 z.2
   | n+6,h=>absurd h (by omega))
  (fun z=>psM_0_6 hG x z.1 z.2) (m,b)
theorem psR_0:RunsTo Tryz.prog 26 prL (psO 0 x b m) .normal (psO 1 x (prI_F o x x 0 (m,b)).2 (prI_F o x x 0 (m,b)).1):=by
 rw[prL_is]
 have h:=(gRun_runs hG (psb_0 o x m b)).seq ((gRun_runs hG (psB_0 o x m b)).seq (psN_0 hG x m b))
 generalize prI_F o x x 0 (m,b)=z at h ⊢
 exact ((gRun_runs hG (psa_0 o x m b)).seq ((gRun_runs hG (psA_0 o x m b)).seq ((h.block (.inl rfl)).seq (gRun_runs hG (psc_0 o x z.1 z.2))))).freed (pslo1 ..) (psW_0 ..) rfl
theorem psM_1_0:RunsTo Tryz.prog 26 prM (psI 1 0 x b m) .normal (psI 1 1 x (pmO o b (fun k=>x k 1) (fun k=>x k 0)).2 (setM m 1 0 (pmO o b (fun k=>x k 1) (fun k=>x k 0)).1)):=gCut_runs hG (psm_1_0 o x m b) (pslo ..) (pso_1 ..) rfl
theorem psM_1_1:RunsTo Tryz.prog 26 prM (psI 1 1 x b m) .normal (psI 1 2 x (pmO o b (fun k=>x k 1) (fun k=>x k 1)).2 (setM m 1 1 (pmO o b (fun k=>x k 1) (fun k=>x k 1)).1)):=gCut_runs hG (psm_1_1 o x m b) (pslo ..) (pso_1 ..) rfl
theorem psM_1_2:RunsTo Tryz.prog 26 prM (psI 1 2 x b m) .normal (psI 1 3 x (pmO o b (fun k=>x k 1) (fun k=>x k 2)).2 (setM m 1 2 (pmO o b (fun k=>x k 1) (fun k=>x k 2)).1)):=gCut_runs hG (psm_1_2 o x m b) (pslo ..) (pso_1 ..) rfl
theorem psM_1_3:RunsTo Tryz.prog 26 prM (psI 1 3 x b m) .normal (psI 1 4 x (pmO o b (fun k=>x k 1) (fun k=>x k 3)).2 (setM m 1 3 (pmO o b (fun k=>x k 1) (fun k=>x k 3)).1)):=gCut_runs hG (psm_1_3 o x m b) (pslo ..) (pso_1 ..) rfl
theorem psM_1_4:RunsTo Tryz.prog 26 prM (psI 1 4 x b m) .normal (psI 1 5 x (pmO o b (fun k=>x k 1) (fun k=>x k 4)).2 (setM m 1 4 (pmO o b (fun k=>x k 1) (fun k=>x k 4)).1)):=gCut_runs hG (psm_1_4 o x m b) (pslo ..) (pso_1 ..) rfl
theorem psM_1_5:RunsTo Tryz.prog 26 prM (psI 1 5 x b m) .normal (psI 1 6 x (pmO o b (fun k=>x k 1) (fun k=>x k 5)).2 (setM m 1 5 (pmO o b (fun k=>x k 1) (fun k=>x k 5)).1)):=gCut_runs hG (psm_1_5 o x m b) (pslo ..) (pso_1 ..) rfl
theorem psM_1_6:RunsTo Tryz.prog 26 prM (psI 1 6 x b m) (.exit 2) (psJ 1 x b m):=gCut_runs hG (psm_1_6 o x m b) (pslo ..) (psp_1 ..) rfl
theorem psN_1:RunsTo Tryz.prog 26 (.block 2 (.loop prM)) (psI 1 0 x b m) .normal (psJ 1 x (prI_F o x x 1 (m,b)).2 (prI_F o x x 1 (m,b)).1) :=
 RunsTo.rounds (P:=Tryz.prog) (N:=26) (c:=prM) (id:=2) 6 (fun j z=>psI 1 j x z.2 z.1) (fun z=>psJ 1 x z.2 z.1) (prJ_F o x x 1)
  (fun j z hj=>match j,hj with
   | 0,_=>psM_1_0 hG x z.1 z.2
   | 1,_=>psM_1_1 hG x z.1 z.2
   | 2,_=>psM_1_2 hG x z.1 z.2
   | 3,_=>psM_1_3 hG x z.1 z.2
   | 4,_=>psM_1_4 hG x z.1 z.2
   | 5,_=>psM_1_5 hG x z.1 z.2
   | n+6,h=>absurd h (by omega))
  (fun z=>psM_1_6 hG x z.1 z.2) (m,b)
theorem psR_1:RunsTo Tryz.prog 26 prL (psO 1 x b m) .normal (psO 2 x (prI_F o x x 1 (m,b)).2 (prI_F o x x 1 (m,b)).1):=by
 rw[prL_is]
 have h:=(gRun_runs hG (psb_1 o x m b)).seq ((gRun_runs hG (psB_1 o x m b)).seq (psN_1 hG x m b))
 generalize prI_F o x x 1 (m,b)=z at h ⊢
 exact ((gRun_runs hG (psa_1 o x m b)).seq ((gRun_runs hG (psA_1 o x m b)).seq ((h.block (.inl rfl)).seq (gRun_runs hG (psc_1 o x z.1 z.2))))).freed (pslo1 ..) (psW_1 ..) rfl
theorem psM_2_0:RunsTo Tryz.prog 26 prM (psI 2 0 x b m) .normal (psI 2 1 x (pmO o b (fun k=>x k 2) (fun k=>x k 0)).2 (setM m 2 0 (pmO o b (fun k=>x k 2) (fun k=>x k 0)).1)):=gCut_runs hG (psm_2_0 o x m b) (pslo ..) (pso_2 ..) rfl
theorem psM_2_1:RunsTo Tryz.prog 26 prM (psI 2 1 x b m) .normal (psI 2 2 x (pmO o b (fun k=>x k 2) (fun k=>x k 1)).2 (setM m 2 1 (pmO o b (fun k=>x k 2) (fun k=>x k 1)).1)):=gCut_runs hG (psm_2_1 o x m b) (pslo ..) (pso_2 ..) rfl
theorem psM_2_2:RunsTo Tryz.prog 26 prM (psI 2 2 x b m) .normal (psI 2 3 x (pmO o b (fun k=>x k 2) (fun k=>x k 2)).2 (setM m 2 2 (pmO o b (fun k=>x k 2) (fun k=>x k 2)).1)):=gCut_runs hG (psm_2_2 o x m b) (pslo ..) (pso_2 ..) rfl
theorem psM_2_3:RunsTo Tryz.prog 26 prM (psI 2 3 x b m) .normal (psI 2 4 x (pmO o b (fun k=>x k 2) (fun k=>x k 3)).2 (setM m 2 3 (pmO o b (fun k=>x k 2) (fun k=>x k 3)).1)):=gCut_runs hG (psm_2_3 o x m b) (pslo ..) (pso_2 ..) rfl
theorem psM_2_4:RunsTo Tryz.prog 26 prM (psI 2 4 x b m) .normal (psI 2 5 x (pmO o b (fun k=>x k 2) (fun k=>x k 4)).2 (setM m 2 4 (pmO o b (fun k=>x k 2) (fun k=>x k 4)).1)):=gCut_runs hG (psm_2_4 o x m b) (pslo ..) (pso_2 ..) rfl
theorem psM_2_5:RunsTo Tryz.prog 26 prM (psI 2 5 x b m) .normal (psI 2 6 x (pmO o b (fun k=>x k 2) (fun k=>x k 5)).2 (setM m 2 5 (pmO o b (fun k=>x k 2) (fun k=>x k 5)).1)):=gCut_runs hG (psm_2_5 o x m b) (pslo ..) (pso_2 ..) rfl
theorem psM_2_6:RunsTo Tryz.prog 26 prM (psI 2 6 x b m) (.exit 2) (psJ 2 x b m):=gCut_runs hG (psm_2_6 o x m b) (pslo ..) (psp_2 ..) rfl
theorem psN_2:RunsTo Tryz.prog 26 (.block 2 (.loop prM)) (psI 2 0 x b m) .normal (psJ 2 x (prI_F o x x 2 (m,b)).2 (prI_F o x x 2 (m,b)).1) :=
 RunsTo.rounds (P:=Tryz.prog) (N:=26) (c:=prM) (id:=2) 6 (fun j z=>psI 2 j x z.2 z.1) (fun z=>psJ 2 x z.2 z.1) (prJ_F o x x 2)
  (fun j z hj=>match j,hj with
   | 0,_=>psM_2_0 hG x z.1 z.2
   | 1,_=>psM_2_1 hG x z.1 z.2
   | 2,_=>psM_2_2 hG x z.1 z.2
   | 3,_=>psM_2_3 hG x z.1 z.2
   | 4,_=>psM_2_4 hG x z.1 z.2
   | 5,_=>psM_2_5 hG x z.1 z.2
   | n+6,h=>absurd h (by omega))
  (fun z=>psM_2_6 hG x z.1 z.2) (m,b)
theorem psR_2:RunsTo Tryz.prog 26 prL (psO 2 x b m) .normal (psO 3 x (prI_F o x x 2 (m,b)).2 (prI_F o x x 2 (m,b)).1):=by
 rw[prL_is]
 have h:=(gRun_runs hG (psb_2 o x m b)).seq ((gRun_runs hG (psB_2 o x m b)).seq (psN_2 hG x m b))
 generalize prI_F o x x 2 (m,b)=z at h ⊢
 exact ((gRun_runs hG (psa_2 o x m b)).seq ((gRun_runs hG (psA_2 o x m b)).seq ((h.block (.inl rfl)).seq (gRun_runs hG (psc_2 o x z.1 z.2))))).freed (pslo1 ..) (psW_2 ..) rfl
theorem psM_3_0:RunsTo Tryz.prog 26 prM (psI 3 0 x b m) .normal (psI 3 1 x (pmO o b (fun k=>x k 3) (fun k=>x k 0)).2 (setM m 3 0 (pmO o b (fun k=>x k 3) (fun k=>x k 0)).1)):=gCut_runs hG (psm_3_0 o x m b) (pslo ..) (pso_3 ..) rfl
theorem psM_3_1:RunsTo Tryz.prog 26 prM (psI 3 1 x b m) .normal (psI 3 2 x (pmO o b (fun k=>x k 3) (fun k=>x k 1)).2 (setM m 3 1 (pmO o b (fun k=>x k 3) (fun k=>x k 1)).1)):=gCut_runs hG (psm_3_1 o x m b) (pslo ..) (pso_3 ..) rfl
theorem psM_3_2:RunsTo Tryz.prog 26 prM (psI 3 2 x b m) .normal (psI 3 3 x (pmO o b (fun k=>x k 3) (fun k=>x k 2)).2 (setM m 3 2 (pmO o b (fun k=>x k 3) (fun k=>x k 2)).1)):=gCut_runs hG (psm_3_2 o x m b) (pslo ..) (pso_3 ..) rfl
theorem psM_3_3:RunsTo Tryz.prog 26 prM (psI 3 3 x b m) .normal (psI 3 4 x (pmO o b (fun k=>x k 3) (fun k=>x k 3)).2 (setM m 3 3 (pmO o b (fun k=>x k 3) (fun k=>x k 3)).1)):=gCut_runs hG (psm_3_3 o x m b) (pslo ..) (pso_3 ..) rfl
theorem psM_3_4:RunsTo Tryz.prog 26 prM (psI 3 4 x b m) .normal (psI 3 5 x (pmO o b (fun k=>x k 3) (fun k=>x k 4)).2 (setM m 3 4 (pmO o b (fun k=>x k 3) (fun k=>x k 4)).1)):=gCut_runs hG (psm_3_4 o x m b) (pslo ..) (pso_3 ..) rfl
theorem psM_3_5:RunsTo Tryz.prog 26 prM (psI 3 5 x b m) .normal (psI 3 6 x (pmO o b (fun k=>x k 3) (fun k=>x k 5)).2 (setM m 3 5 (pmO o b (fun k=>x k 3) (fun k=>x k 5)).1)):=gCut_runs hG (psm_3_5 o x m b) (pslo ..) (pso_3 ..) rfl
theorem psM_3_6:RunsTo Tryz.prog 26 prM (psI 3 6 x b m) (.exit 2) (psJ 3 x b m):=gCut_runs hG (psm_3_6 o x m b) (pslo ..) (psp_3 ..) rfl
theorem psN_3:RunsTo Tryz.prog 26 (.block 2 (.loop prM)) (psI 3 0 x b m) .normal (psJ 3 x (prI_F o x x 3 (m,b)).2 (prI_F o x x 3 (m,b)).1) :=
 RunsTo.rounds (P:=Tryz.prog) (N:=26) (c:=prM) (id:=2) 6 (fun j z=>psI 3 j x z.2 z.1) (fun z=>psJ 3 x z.2 z.1) (prJ_F o x x 3)
  (fun j z hj=>match j,hj with
   | 0,_=>psM_3_0 hG x z.1 z.2
   | 1,_=>psM_3_1 hG x z.1 z.2
   | 2,_=>psM_3_2 hG x z.1 z.2
   | 3,_=>psM_3_3 hG x z.1 z.2
   | 4,_=>psM_3_4 hG x z.1 z.2
   | 5,_=>psM_3_5 hG x z.1 z.2
   | n+6,h=>absurd h (by omega))
  (fun z=>psM_3_6 hG x z.1 z.2) (m,b)
theorem psR_3:RunsTo Tryz.prog 26 prL (psO 3 x b m) .normal (psO 4 x (prI_F o x x 3 (m,b)).2 (prI_F o x x 3 (m,b)).1):=by
 rw[prL_is]
 have h:=(gRun_runs hG (psb_3 o x m b)).seq ((gRun_runs hG (psB_3 o x m b)).seq (psN_3 hG x m b))
 generalize prI_F o x x 3 (m,b)=z at h ⊢
 exact ((gRun_runs hG (psa_3 o x m b)).seq ((gRun_runs hG (psA_3 o x m b)).seq ((h.block (.inl rfl)).seq (gRun_runs hG (psc_3 o x z.1 z.2))))).freed (pslo1 ..) (psW_3 ..) rfl
theorem psM_4_0:RunsTo Tryz.prog 26 prM (psI 4 0 x b m) .normal (psI 4 1 x (pmO o b (fun k=>x k 4) (fun k=>x k 0)).2 (setM m 4 0 (pmO o b (fun k=>x k 4) (fun k=>x k 0)).1)):=gCut_runs hG (psm_4_0 o x m b) (pslo ..) (pso_4 ..) rfl
theorem psM_4_1:RunsTo Tryz.prog 26 prM (psI 4 1 x b m) .normal (psI 4 2 x (pmO o b (fun k=>x k 4) (fun k=>x k 1)).2 (setM m 4 1 (pmO o b (fun k=>x k 4) (fun k=>x k 1)).1)):=gCut_runs hG (psm_4_1 o x m b) (pslo ..) (pso_4 ..) rfl
theorem psM_4_2:RunsTo Tryz.prog 26 prM (psI 4 2 x b m) .normal (psI 4 3 x (pmO o b (fun k=>x k 4) (fun k=>x k 2)).2 (setM m 4 2 (pmO o b (fun k=>x k 4) (fun k=>x k 2)).1)):=gCut_runs hG (psm_4_2 o x m b) (pslo ..) (pso_4 ..) rfl
theorem psM_4_3:RunsTo Tryz.prog 26 prM (psI 4 3 x b m) .normal (psI 4 4 x (pmO o b (fun k=>x k 4) (fun k=>x k 3)).2 (setM m 4 3 (pmO o b (fun k=>x k 4) (fun k=>x k 3)).1)):=gCut_runs hG (psm_4_3 o x m b) (pslo ..) (pso_4 ..) rfl
theorem psM_4_4:RunsTo Tryz.prog 26 prM (psI 4 4 x b m) .normal (psI 4 5 x (pmO o b (fun k=>x k 4) (fun k=>x k 4)).2 (setM m 4 4 (pmO o b (fun k=>x k 4) (fun k=>x k 4)).1)):=gCut_runs hG (psm_4_4 o x m b) (pslo ..) (pso_4 ..) rfl
theorem psM_4_5:RunsTo Tryz.prog 26 prM (psI 4 5 x b m) .normal (psI 4 6 x (pmO o b (fun k=>x k 4) (fun k=>x k 5)).2 (setM m 4 5 (pmO o b (fun k=>x k 4) (fun k=>x k 5)).1)):=gCut_runs hG (psm_4_5 o x m b) (pslo ..) (pso_4 ..) rfl
theorem psM_4_6:RunsTo Tryz.prog 26 prM (psI 4 6 x b m) (.exit 2) (psJ 4 x b m):=gCut_runs hG (psm_4_6 o x m b) (pslo ..) (psp_4 ..) rfl
theorem psN_4:RunsTo Tryz.prog 26 (.block 2 (.loop prM)) (psI 4 0 x b m) .normal (psJ 4 x (prI_F o x x 4 (m,b)).2 (prI_F o x x 4 (m,b)).1) :=
 RunsTo.rounds (P:=Tryz.prog) (N:=26) (c:=prM) (id:=2) 6 (fun j z=>psI 4 j x z.2 z.1) (fun z=>psJ 4 x z.2 z.1) (prJ_F o x x 4)
  (fun j z hj=>match j,hj with
   | 0,_=>psM_4_0 hG x z.1 z.2
   | 1,_=>psM_4_1 hG x z.1 z.2
   | 2,_=>psM_4_2 hG x z.1 z.2
   | 3,_=>psM_4_3 hG x z.1 z.2
   | 4,_=>psM_4_4 hG x z.1 z.2
   | 5,_=>psM_4_5 hG x z.1 z.2
   | n+6,h=>absurd h (by omega))
  (fun z=>psM_4_6 hG x z.1 z.2) (m,b)
theorem psR_4:RunsTo Tryz.prog 26 prL (psO 4 x b m) .normal (psO 5 x (prI_F o x x 4 (m,b)).2 (prI_F o x x 4 (m,b)).1):=by
 rw[prL_is]
 have h:=(gRun_runs hG (psb_4 o x m b)).seq ((gRun_runs hG (psB_4 o x m b)).seq (psN_4 hG x m b))
 generalize prI_F o x x 4 (m,b)=z at h ⊢
 exact ((gRun_runs hG (psa_4 o x m b)).seq ((gRun_runs hG (psA_4 o x m b)).seq ((h.block (.inl rfl)).seq (gRun_runs hG (psc_4 o x z.1 z.2))))).freed (pslo1 ..) (psW_4 ..) rfl
theorem psM_5_0:RunsTo Tryz.prog 26 prM (psI 5 0 x b m) .normal (psI 5 1 x (pmO o b (fun k=>x k 5) (fun k=>x k 0)).2 (setM m 5 0 (pmO o b (fun k=>x k 5) (fun k=>x k 0)).1)):=gCut_runs hG (psm_5_0 o x m b) (pslo ..) (pso_5 ..) rfl
theorem psM_5_1:RunsTo Tryz.prog 26 prM (psI 5 1 x b m) .normal (psI 5 2 x (pmO o b (fun k=>x k 5) (fun k=>x k 1)).2 (setM m 5 1 (pmO o b (fun k=>x k 5) (fun k=>x k 1)).1)):=gCut_runs hG (psm_5_1 o x m b) (pslo ..) (pso_5 ..) rfl
theorem psM_5_2:RunsTo Tryz.prog 26 prM (psI 5 2 x b m) .normal (psI 5 3 x (pmO o b (fun k=>x k 5) (fun k=>x k 2)).2 (setM m 5 2 (pmO o b (fun k=>x k 5) (fun k=>x k 2)).1)):=gCut_runs hG (psm_5_2 o x m b) (pslo ..) (pso_5 ..) rfl
theorem psM_5_3:RunsTo Tryz.prog 26 prM (psI 5 3 x b m) .normal (psI 5 4 x (pmO o b (fun k=>x k 5) (fun k=>x k 3)).2 (setM m 5 3 (pmO o b (fun k=>x k 5) (fun k=>x k 3)).1)):=gCut_runs hG (psm_5_3 o x m b) (pslo ..) (pso_5 ..) rfl
theorem psM_5_4:RunsTo Tryz.prog 26 prM (psI 5 4 x b m) .normal (psI 5 5 x (pmO o b (fun k=>x k 5) (fun k=>x k 4)).2 (setM m 5 4 (pmO o b (fun k=>x k 5) (fun k=>x k 4)).1)):=gCut_runs hG (psm_5_4 o x m b) (pslo ..) (pso_5 ..) rfl
theorem psM_5_5:RunsTo Tryz.prog 26 prM (psI 5 5 x b m) .normal (psI 5 6 x (pmO o b (fun k=>x k 5) (fun k=>x k 5)).2 (setM m 5 5 (pmO o b (fun k=>x k 5) (fun k=>x k 5)).1)):=gCut_runs hG (psm_5_5 o x m b) (pslo ..) (pso_5 ..) rfl
theorem psM_5_6:RunsTo Tryz.prog 26 prM (psI 5 6 x b m) (.exit 2) (psJ 5 x b m):=gCut_runs hG (psm_5_6 o x m b) (pslo ..) (psp_5 ..) rfl
theorem psN_5:RunsTo Tryz.prog 26 (.block 2 (.loop prM)) (psI 5 0 x b m) .normal (psJ 5 x (prI_F o x x 5 (m,b)).2 (prI_F o x x 5 (m,b)).1) :=
 RunsTo.rounds (P:=Tryz.prog) (N:=26) (c:=prM) (id:=2) 6 (fun j z=>psI 5 j x z.2 z.1) (fun z=>psJ 5 x z.2 z.1) (prJ_F o x x 5)
  (fun j z hj=>match j,hj with
   | 0,_=>psM_5_0 hG x z.1 z.2
   | 1,_=>psM_5_1 hG x z.1 z.2
   | 2,_=>psM_5_2 hG x z.1 z.2
   | 3,_=>psM_5_3 hG x z.1 z.2
   | 4,_=>psM_5_4 hG x z.1 z.2
   | 5,_=>psM_5_5 hG x z.1 z.2
   | n+6,h=>absurd h (by omega))
  (fun z=>psM_5_6 hG x z.1 z.2) (m,b)
theorem psR_5:RunsTo Tryz.prog 26 prL (psO 5 x b m) .normal (psO 6 x (prI_F o x x 5 (m,b)).2 (prI_F o x x 5 (m,b)).1):=by
 rw[prL_is]
 have h:=(gRun_runs hG (psb_5 o x m b)).seq ((gRun_runs hG (psB_5 o x m b)).seq (psN_5 hG x m b))
 generalize prI_F o x x 5 (m,b)=z at h ⊢
 exact ((gRun_runs hG (psa_5 o x m b)).seq ((gRun_runs hG (psA_5 o x m b)).seq ((h.block (.inl rfl)).seq (gRun_runs hG (psc_5 o x z.1 z.2))))).freed (pslo1 ..) (psW_5 ..) rfl
theorem psX:RunsTo Tryz.prog 26 prL (psO 6 x b m) (.exit 0) (prS [] (psH x b m []) nF):=gCut_runs hG (psx o x m b) (pslo1 ..) (psy ..) rfl
theorem psL:RunsTo Tryz.prog 26 (.block 0 (.loop prL)) (psO 0 x b m) .normal (prS [] (psH x (iterF (prI_F o x x) 0 6 (m,b)).2 (iterF (prI_F o x x) 0 6 (m,b)).1 []) nF) :=
 RunsTo.rounds (P:=Tryz.prog) (N:=26) (c:=prL) (id:=0) 6 (fun i z=>psO i x z.2 z.1) (fun z=>prS [] (psH x z.2 z.1 []) nF) (prI_F o x x)
  (fun i z hi=>match i,hi with
   | 0,_=>psR_0 hG x z.1 z.2
   | 1,_=>psR_1 hG x z.1 z.2
   | 2,_=>psR_2 hG x z.1 z.2
   | 3,_=>psR_3 hG x z.1 z.2
   | 4,_=>psR_4 hG x z.1 z.2
   | 5,_=>psR_5 hG x z.1 z.2
   | n+6,h=>absurd h (by omega))
  (fun z=>psX hG x z.1 z.2) (m,b)
omit m in
theorem ps_runs:RunsTo Tryz.prog 26 prC (startS 26 [.ptr 0 0,.ptr 1 0,.ptr 1 0] [.row 57 [.val (.bool b)],.row 112 (cells13 x)]) .ret (psF x (prodO o b x x).2 (prodO o b x x).1):=by
 have hc:prC=.seq pr0 (.seq pr1 (.seq (.seq pr2 (.block 0 (.loop prL))) prE)):=by
  unfold prC
  rw[prC_is]
  rfl
 rw[hc]
 have hL:=psL hG x mx0 b
 unfold prodO
 generalize iterF (prI_F o x x) 0 6 (mx0,b)=z at hL ⊢
 exact (gRun_runs hG (ps0 o x b)).seq ((gRun_runs hG (ps1 o x b)).seq (((gRun_runs hG (ps2 o x b)).seq hL).seq (gRun_runs hG (pse o x z.1 z.2))))
end
end Go.Ab
