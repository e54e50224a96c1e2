/- A part of the proofs: lemmas, no statement of their own; no condition. -/
import Derived.Test.YtccgjhdpiaglaaaGRtF
/- The filter's products, of rows in one block. -/
namespace Go.Ab
open Go Go.Proofs
def psH (x : Mx) (b : Bool) (m : Mx) (e : List (Nat × Con)) : Hp := [(0, .row 25 [.val (.bool b)]), (1, .row 111 (cells13 x)), (nA, .row 23 [.ptr 0 0]), (nB, .row 119 [.ptr 1 0]), (nC, .row 119 [.ptr 1 0]), (nD, .row 47 (cells36 mx0)), (nE, .row 47 (cells36 m))] ++ e
abbrev psK : List Nat := [0, 1, nA, nB, nC, nD, nE]
def psO (i : Int) (x : Mx) (b : Bool) (m : Mx) : St := prS [(10, .val (.int .i64 i))] (psH x b m []) nF
def psI (i j : Int) (x : Mx) (b : Bool) (m : Mx) : St := prS [(8, .ptr nF 0), (10, .val (.int .i64 i)), (13, .val (.int .i64 j))] (psH x b m [(nF, .row 3 [.val (.int .i64 i)])]) nG
def psJ (i : Int) (x : Mx) (b : Bool) (m : Mx) : St := prS [(8, .ptr nF 0), (10, .val (.int .i64 i))] (psH x b m [(nF, .row 3 [.val (.int .i64 i)])]) nG
def psF (x : Mx) (b : Bool) (m : Mx) : St := gSt 26 [(6, .ptr nD 0)] [(0, .row 25 [.val (.bool b)]), (1, .row 111 (cells13 x)), (nD, .row 47 (cells36 m))] nF
section
variable (o : Ops) (x m : Mx) (b : Bool)
theorem ps0 : gRun Try.prog { gam := gamN o } 26 pr0 (startS 26 [.ptr 0 0, .ptr 1 0, .ptr 1 0] [.row 25 [.val (.bool b)], .row 111 (cells13 x)]) [0, 1, nA, nB, nC, nD] [3, 4, 5, 6] = some (.normal, gSt 26 [(3, .ptr nA 0), (4, .ptr nB 0), (5, .ptr nC 0), (6, .ptr nD 0)] [(0, .row 25 [.val (.bool b)]), (1, .row 111 (cells13 x)), (nA, .row 23 [.ptr 0 0]), (nB, .row 119 [.ptr 1 0]), (nC, .row 119 [.ptr 1 0]), (nD, .row 47 (cells36 mx0))] nE) := by kernel_rfl
def psQ (x : Mx) (b : Bool) : St := gSt 26 [(3, .ptr nA 0), (4, .ptr nB 0), (5, .ptr nC 0), (6, .ptr nD 0)] [(0, .row 25 [.val (.bool b)]), (1, .row 111 (cells13 x)), (nA, .row 23 [.ptr 0 0]), (nB, .row 119 [.ptr 1 0]), (nC, .row 119 [.ptr 1 0]), (nD, .row 47 (cells36 mx0))] nE
theorem ps1 : gRun Try.prog { gam := gamN o } 26 pr1 (psQ x b) psK (prT []) = some (.normal, prS [] (psH x b mx0 []) nF) := by kernel_rfl
theorem ps2 : gRun Try.prog { gam := gamN o } 26 pr2 (prS [] (psH x b mx0 []) nF) psK (prT [10]) = some (.normal, psO 0 x b mx0) := by kernel_rfl
def psU_0 (x : Mx) (b : Bool) (m : Mx) : St := prS [(10, .val (.int .i64 0)), (11, .val (.bool true))] (psH x b m []) nF
theorem psa_0 : gRun Try.prog { gam := gamN o } 26 pr3 (psO 0 x b m) psK (prT [10, 11]) = some (.normal, psU_0 x b m) := by kernel_rfl
theorem psA_0 : gRun Try.prog { gam := gamN o } 26 pr3b (psU_0 x b m) psK (prT [10]) = some (.normal, psO 0 x b m) := by kernel_rfl
theorem psb_0 : gRun Try.prog { gam := gamN o } 26 pr4 (psO 0 x b m) (psK ++ [nF]) (prT [8, 10]) = some (.normal, psJ 0 x b m) := by kernel_rfl
theorem psB_0 : gRun Try.prog { gam := gamN o } 26 pr5 (psJ 0 x b m) (psK ++ [nF]) (prT [8, 10, 13]) = some (.normal, psI 0 0 x b m) := by kernel_rfl
theorem psm_0_0 : gCut Try.prog { gam := gamN o } 26 prM (psI 0 0 x b m) nG (psK ++ [nF]) (prT [8, 10, 13]) = some (.normal, psI 0 1 x (pmO o b (fun k => x k 0) (fun k => x k 0)).2 (setM m 0 0 (pmO o b (fun k => x k 0) (fun k => x k 0)).1)) := by kernel_rfl
theorem psm_0_1 : gCut Try.prog { gam := gamN o } 26 prM (psI 0 1 x b m) nG (psK ++ [nF]) (prT [8, 10, 13]) = some (.normal, psI 0 2 x (pmO o b (fun k => x k 0) (fun k => x k 1)).2 (setM m 0 1 (pmO o b (fun k => x k 0) (fun k => x k 1)).1)) := by kernel_rfl
theorem psm_0_2 : gCut Try.prog { gam := gamN o } 26 prM (psI 0 2 x b m) nG (psK ++ [nF]) (prT [8, 10, 13]) = some (.normal, psI 0 3 x (pmO o b (fun k => x k 0) (fun k => x k 2)).2 (setM m 0 2 (pmO o b (fun k => x k 0) (fun k => x k 2)).1)) := by kernel_rfl
theorem psm_0_3 : gCut Try.prog { gam := gamN o } 26 prM (psI 0 3 x b m) nG (psK ++ [nF]) (prT [8, 10, 13]) = some (.normal, psI 0 4 x (pmO o b (fun k => x k 0) (fun k => x k 3)).2 (setM m 0 3 (pmO o b (fun k => x k 0) (fun k => x k 3)).1)) := by kernel_rfl
theorem psm_0_4 : gCut Try.prog { gam := gamN o } 26 prM (psI 0 4 x b m) nG (psK ++ [nF]) (prT [8, 10, 13]) = some (.normal, psI 0 5 x (pmO o b (fun k => x k 0) (fun k => x k 4)).2 (setM m 0 4 (pmO o b (fun k => x k 0) (fun k => x k 4)).1)) := by kernel_rfl
theorem psm_0_5 : gCut Try.prog { gam := gamN o } 26 prM (psI 0 5 x b m) nG (psK ++ [nF]) (prT [8, 10, 13]) = some (.normal, psI 0 6 x (pmO o b (fun k => x k 0) (fun k => x k 5)).2 (setM m 0 5 (pmO o b (fun k => x k 0) (fun k => x k 5)).1)) := by kernel_rfl
theorem psm_0_6 : gCut Try.prog { gam := gamN o } 26 prM (psI 0 6 x b m) nG (psK ++ [nF]) (prT [8, 10]) = some (.exit 2, psJ 0 x b m) := by kernel_rfl
theorem psc_0 : gRun Try.prog { gam := gamN o } 26 pr10 (psJ 0 x b m) psK (prT [10]) = some (.normal, { psO 1 x b m with lo := nG }) := by kernel_rfl
theorem pso_0 (j : Int) : okClean nG (psI 0 j x b m) = true := by kernel_rfl
theorem psp_0 : okClean nG (psJ 0 x b m) = true := by kernel_rfl
def psU_1 (x : Mx) (b : Bool) (m : Mx) : St := prS [(10, .val (.int .i64 1)), (11, .val (.bool true))] (psH x b m []) nF
theorem psa_1 : gRun Try.prog { gam := gamN o } 26 pr3 (psO 1 x b m) psK (prT [10, 11]) = some (.normal, psU_1 x b m) := by kernel_rfl
theorem psA_1 : gRun Try.prog { gam := gamN o } 26 pr3b (psU_1 x b m) psK (prT [10]) = some (.normal, psO 1 x b m) := by kernel_rfl
theorem psb_1 : gRun Try.prog { gam := gamN o } 26 pr4 (psO 1 x b m) (psK ++ [nF]) (prT [8, 10]) = some (.normal, psJ 1 x b m) := by kernel_rfl
theorem psB_1 : gRun Try.prog { gam := gamN o } 26 pr5 (psJ 1 x b m) (psK ++ [nF]) (prT [8, 10, 13]) = some (.normal, psI 1 0 x b m) := by kernel_rfl
theorem psm_1_0 : gCut Try.prog { gam := gamN o } 26 prM (psI 1 0 x b m) nG (psK ++ [nF]) (prT [8, 10, 13]) = some (.normal, psI 1 1 x (pmO o b (fun k => x k 1) (fun k => x k 0)).2 (setM m 1 0 (pmO o b (fun k => x k 1) (fun k => x k 0)).1)) := by kernel_rfl
theorem psm_1_1 : gCut Try.prog { gam := gamN o } 26 prM (psI 1 1 x b m) nG (psK ++ [nF]) (prT [8, 10, 13]) = some (.normal, psI 1 2 x (pmO o b (fun k => x k 1) (fun k => x k 1)).2 (setM m 1 1 (pmO o b (fun k => x k 1) (fun k => x k 1)).1)) := by kernel_rfl
theorem psm_1_2 : gCut Try.prog { gam := gamN o } 26 prM (psI 1 2 x b m) nG (psK ++ [nF]) (prT [8, 10, 13]) = some (.normal, psI 1 3 x (pmO o b (fun k => x k 1) (fun k => x k 2)).2 (setM m 1 2 (pmO o b (fun k => x k 1) (fun k => x k 2)).1)) := by kernel_rfl
theorem psm_1_3 : gCut Try.prog { gam := gamN o } 26 prM (psI 1 3 x b m) nG (psK ++ [nF]) (prT [8, 10, 13]) = some (.normal, psI 1 4 x (pmO o b (fun k => x k 1) (fun k => x k 3)).2 (setM m 1 3 (pmO o b (fun k => x k 1) (fun k => x k 3)).1)) := by kernel_rfl
theorem psm_1_4 : gCut Try.prog { gam := gamN o } 26 prM (psI 1 4 x b m) nG (psK ++ [nF]) (prT [8, 10, 13]) = some (.normal, psI 1 5 x (pmO o b (fun k => x k 1) (fun k => x k 4)).2 (setM m 1 4 (pmO o b (fun k => x k 1) (fun k => x k 4)).1)) := by kernel_rfl
theorem psm_1_5 : gCut Try.prog { gam := gamN o } 26 prM (psI 1 5 x b m) nG (psK ++ [nF]) (prT [8, 10, 13]) = some (.normal, psI 1 6 x (pmO o b (fun k => x k 1) (fun k => x k 5)).2 (setM m 1 5 (pmO o b (fun k => x k 1) (fun k => x k 5)).1)) := by kernel_rfl
theorem psm_1_6 : gCut Try.prog { gam := gamN o } 26 prM (psI 1 6 x b m) nG (psK ++ [nF]) (prT [8, 10]) = some (.exit 2, psJ 1 x b m) := by kernel_rfl
theorem psc_1 : gRun Try.prog { gam := gamN o } 26 pr10 (psJ 1 x b m) psK (prT [10]) = some (.normal, { psO 2 x b m with lo := nG }) := by kernel_rfl
theorem pso_1 (j : Int) : okClean nG (psI 1 j x b m) = true := by kernel_rfl
theorem psp_1 : okClean nG (psJ 1 x b m) = true := by kernel_rfl
def psU_2 (x : Mx) (b : Bool) (m : Mx) : St := prS [(10, .val (.int .i64 2)), (11, .val (.bool true))] (psH x b m []) nF
theorem psa_2 : gRun Try.prog { gam := gamN o } 26 pr3 (psO 2 x b m) psK (prT [10, 11]) = some (.normal, psU_2 x b m) := by kernel_rfl
theorem psA_2 : gRun Try.prog { gam := gamN o } 26 pr3b (psU_2 x b m) psK (prT [10]) = some (.normal, psO 2 x b m) := by kernel_rfl
theorem psb_2 : gRun Try.prog { gam := gamN o } 26 pr4 (psO 2 x b m) (psK ++ [nF]) (prT [8, 10]) = some (.normal, psJ 2 x b m) := by kernel_rfl
theorem psB_2 : gRun Try.prog { gam := gamN o } 26 pr5 (psJ 2 x b m) (psK ++ [nF]) (prT [8, 10, 13]) = some (.normal, psI 2 0 x b m) := by kernel_rfl
theorem psm_2_0 : gCut Try.prog { gam := gamN o } 26 prM (psI 2 0 x b m) nG (psK ++ [nF]) (prT [8, 10, 13]) = some (.normal, psI 2 1 x (pmO o b (fun k => x k 2) (fun k => x k 0)).2 (setM m 2 0 (pmO o b (fun k => x k 2) (fun k => x k 0)).1)) := by kernel_rfl
theorem psm_2_1 : gCut Try.prog { gam := gamN o } 26 prM (psI 2 1 x b m) nG (psK ++ [nF]) (prT [8, 10, 13]) = some (.normal, psI 2 2 x (pmO o b (fun k => x k 2) (fun k => x k 1)).2 (setM m 2 1 (pmO o b (fun k => x k 2) (fun k => x k 1)).1)) := by kernel_rfl
theorem psm_2_2 : gCut Try.prog { gam := gamN o } 26 prM (psI 2 2 x b m) nG (psK ++ [nF]) (prT [8, 10, 13]) = some (.normal, psI 2 3 x (pmO o b (fun k => x k 2) (fun k => x k 2)).2 (setM m 2 2 (pmO o b (fun k => x k 2) (fun k => x k 2)).1)) := by kernel_rfl
theorem psm_2_3 : gCut Try.prog { gam := gamN o } 26 prM (psI 2 3 x b m) nG (psK ++ [nF]) (prT [8, 10, 13]) = some (.normal, psI 2 4 x (pmO o b (fun k => x k 2) (fun k => x k 3)).2 (setM m 2 3 (pmO o b (fun k => x k 2) (fun k => x k 3)).1)) := by kernel_rfl
theorem psm_2_4 : gCut Try.prog { gam := gamN o } 26 prM (psI 2 4 x b m) nG (psK ++ [nF]) (prT [8, 10, 13]) = some (.normal, psI 2 5 x (pmO o b (fun k => x k 2) (fun k => x k 4)).2 (setM m 2 4 (pmO o b (fun k => x k 2) (fun k => x k 4)).1)) := by kernel_rfl
theorem psm_2_5 : gCut Try.prog { gam := gamN o } 26 prM (psI 2 5 x b m) nG (psK ++ [nF]) (prT [8, 10, 13]) = some (.normal, psI 2 6 x (pmO o b (fun k => x k 2) (fun k => x k 5)).2 (setM m 2 5 (pmO o b (fun k => x k 2) (fun k => x k 5)).1)) := by kernel_rfl
theorem psm_2_6 : gCut Try.prog { gam := gamN o } 26 prM (psI 2 6 x b m) nG (psK ++ [nF]) (prT [8, 10]) = some (.exit 2, psJ 2 x b m) := by kernel_rfl
theorem psc_2 : gRun Try.prog { gam := gamN o } 26 pr10 (psJ 2 x b m) psK (prT [10]) = some (.normal, { psO 3 x b m with lo := nG }) := by kernel_rfl
theorem pso_2 (j : Int) : okClean nG (psI 2 j x b m) = true := by kernel_rfl
theorem psp_2 : okClean nG (psJ 2 x b m) = true := by kernel_rfl
def psU_3 (x : Mx) (b : Bool) (m : Mx) : St := prS [(10, .val (.int .i64 3)), (11, .val (.bool true))] (psH x b m []) nF
theorem psa_3 : gRun Try.prog { gam := gamN o } 26 pr3 (psO 3 x b m) psK (prT [10, 11]) = some (.normal, psU_3 x b m) := by kernel_rfl
theorem psA_3 : gRun Try.prog { gam := gamN o } 26 pr3b (psU_3 x b m) psK (prT [10]) = some (.normal, psO 3 x b m) := by kernel_rfl
theorem psb_3 : gRun Try.prog { gam := gamN o } 26 pr4 (psO 3 x b m) (psK ++ [nF]) (prT [8, 10]) = some (.normal, psJ 3 x b m) := by kernel_rfl
theorem psB_3 : gRun Try.prog { gam := gamN o } 26 pr5 (psJ 3 x b m) (psK ++ [nF]) (prT [8, 10, 13]) = some (.normal, psI 3 0 x b m) := by kernel_rfl
theorem psm_3_0 : gCut Try.prog { gam := gamN o } 26 prM (psI 3 0 x b m) nG (psK ++ [nF]) (prT [8, 10, 13]) = some (.normal, psI 3 1 x (pmO o b (fun k => x k 3) (fun k => x k 0)).2 (setM m 3 0 (pmO o b (fun k => x k 3) (fun k => x k 0)).1)) := by kernel_rfl
theorem psm_3_1 : gCut Try.prog { gam := gamN o } 26 prM (psI 3 1 x b m) nG (psK ++ [nF]) (prT [8, 10, 13]) = some (.normal, psI 3 2 x (pmO o b (fun k => x k 3) (fun k => x k 1)).2 (setM m 3 1 (pmO o b (fun k => x k 3) (fun k => x k 1)).1)) := by kernel_rfl
theorem psm_3_2 : gCut Try.prog { gam := gamN o } 26 prM (psI 3 2 x b m) nG (psK ++ [nF]) (prT [8, 10, 13]) = some (.normal, psI 3 3 x (pmO o b (fun k => x k 3) (fun k => x k 2)).2 (setM m 3 2 (pmO o b (fun k => x k 3) (fun k => x k 2)).1)) := by kernel_rfl
theorem psm_3_3 : gCut Try.prog { gam := gamN o } 26 prM (psI 3 3 x b m) nG (psK ++ [nF]) (prT [8, 10, 13]) = some (.normal, psI 3 4 x (pmO o b (fun k => x k 3) (fun k => x k 3)).2 (setM m 3 3 (pmO o b (fun k => x k 3) (fun k => x k 3)).1)) := by kernel_rfl
theorem psm_3_4 : gCut Try.prog { gam := gamN o } 26 prM (psI 3 4 x b m) nG (psK ++ [nF]) (prT [8, 10, 13]) = some (.normal, psI 3 5 x (pmO o b (fun k => x k 3) (fun k => x k 4)).2 (setM m 3 4 (pmO o b (fun k => x k 3) (fun k => x k 4)).1)) := by kernel_rfl
theorem psm_3_5 : gCut Try.prog { gam := gamN o } 26 prM (psI 3 5 x b m) nG (psK ++ [nF]) (prT [8, 10, 13]) = some (.normal, psI 3 6 x (pmO o b (fun k => x k 3) (fun k => x k 5)).2 (setM m 3 5 (pmO o b (fun k => x k 3) (fun k => x k 5)).1)) := by kernel_rfl
theorem psm_3_6 : gCut Try.prog { gam := gamN o } 26 prM (psI 3 6 x b m) nG (psK ++ [nF]) (prT [8, 10]) = some (.exit 2, psJ 3 x b m) := by kernel_rfl
theorem psc_3 : gRun Try.prog { gam := gamN o } 26 pr10 (psJ 3 x b m) psK (prT [10]) = some (.normal, { psO 4 x b m with lo := nG }) := by kernel_rfl
theorem pso_3 (j : Int) : okClean nG (psI 3 j x b m) = true := by kernel_rfl
theorem psp_3 : okClean nG (psJ 3 x b m) = true := by kernel_rfl
def psU_4 (x : Mx) (b : Bool) (m : Mx) : St := prS [(10, .val (.int .i64 4)), (11, .val (.bool true))] (psH x b m []) nF
theorem psa_4 : gRun Try.prog { gam := gamN o } 26 pr3 (psO 4 x b m) psK (prT [10, 11]) = some (.normal, psU_4 x b m) := by kernel_rfl
theorem psA_4 : gRun Try.prog { gam := gamN o } 26 pr3b (psU_4 x b m) psK (prT [10]) = some (.normal, psO 4 x b m) := by kernel_rfl
theorem psb_4 : gRun Try.prog { gam := gamN o } 26 pr4 (psO 4 x b m) (psK ++ [nF]) (prT [8, 10]) = some (.normal, psJ 4 x b m) := by kernel_rfl
theorem psB_4 : gRun Try.prog { gam := gamN o } 26 pr5 (psJ 4 x b m) (psK ++ [nF]) (prT [8, 10, 13]) = some (.normal, psI 4 0 x b m) := by kernel_rfl
theorem psm_4_0 : gCut Try.prog { gam := gamN o } 26 prM (psI 4 0 x b m) nG (psK ++ [nF]) (prT [8, 10, 13]) = some (.normal, psI 4 1 x (pmO o b (fun k => x k 4) (fun k => x k 0)).2 (setM m 4 0 (pmO o b (fun k => x k 4) (fun k => x k 0)).1)) := by kernel_rfl
theorem psm_4_1 : gCut Try.prog { gam := gamN o } 26 prM (psI 4 1 x b m) nG (psK ++ [nF]) (prT [8, 10, 13]) = some (.normal, psI 4 2 x (pmO o b (fun k => x k 4) (fun k => x k 1)).2 (setM m 4 1 (pmO o b (fun k => x k 4) (fun k => x k 1)).1)) := by kernel_rfl
theorem psm_4_2 : gCut Try.prog { gam := gamN o } 26 prM (psI 4 2 x b m) nG (psK ++ [nF]) (prT [8, 10, 13]) = some (.normal, psI 4 3 x (pmO o b (fun k => x k 4) (fun k => x k 2)).2 (setM m 4 2 (pmO o b (fun k => x k 4) (fun k => x k 2)).1)) := by kernel_rfl
theorem psm_4_3 : gCut Try.prog { gam := gamN o } 26 prM (psI 4 3 x b m) nG (psK ++ [nF]) (prT [8, 10, 13]) = some (.normal, psI 4 4 x (pmO o b (fun k => x k 4) (fun k => x k 3)).2 (setM m 4 3 (pmO o b (fun k => x k 4) (fun k => x k 3)).1)) := by kernel_rfl
theorem psm_4_4 : gCut Try.prog { gam := gamN o } 26 prM (psI 4 4 x b m) nG (psK ++ [nF]) (prT [8, 10, 13]) = some (.normal, psI 4 5 x (pmO o b (fun k => x k 4) (fun k => x k 4)).2 (setM m 4 4 (pmO o b (fun k => x k 4) (fun k => x k 4)).1)) := by kernel_rfl
theorem psm_4_5 : gCut Try.prog { gam := gamN o } 26 prM (psI 4 5 x b m) nG (psK ++ [nF]) (prT [8, 10, 13]) = some (.normal, psI 4 6 x (pmO o b (fun k => x k 4) (fun k => x k 5)).2 (setM m 4 5 (pmO o b (fun k => x k 4) (fun k => x k 5)).1)) := by kernel_rfl
theorem psm_4_6 : gCut Try.prog { gam := gamN o } 26 prM (psI 4 6 x b m) nG (psK ++ [nF]) (prT [8, 10]) = some (.exit 2, psJ 4 x b m) := by kernel_rfl
theorem psc_4 : gRun Try.prog { gam := gamN o } 26 pr10 (psJ 4 x b m) psK (prT [10]) = some (.normal, { psO 5 x b m with lo := nG }) := by kernel_rfl
theorem pso_4 (j : Int) : okClean nG (psI 4 j x b m) = true := by kernel_rfl
theorem psp_4 : okClean nG (psJ 4 x b m) = true := by kernel_rfl
def psU_5 (x : Mx) (b : Bool) (m : Mx) : St := prS [(10, .val (.int .i64 5)), (11, .val (.bool true))] (psH x b m []) nF
theorem psa_5 : gRun Try.prog { gam := gamN o } 26 pr3 (psO 5 x b m) psK (prT [10, 11]) = some (.normal, psU_5 x b m) := by kernel_rfl
theorem psA_5 : gRun Try.prog { gam := gamN o } 26 pr3b (psU_5 x b m) psK (prT [10]) = some (.normal, psO 5 x b m) := by kernel_rfl
theorem psb_5 : gRun Try.prog { gam := gamN o } 26 pr4 (psO 5 x b m) (psK ++ [nF]) (prT [8, 10]) = some (.normal, psJ 5 x b m) := by kernel_rfl
theorem psB_5 : gRun Try.prog { gam := gamN o } 26 pr5 (psJ 5 x b m) (psK ++ [nF]) (prT [8, 10, 13]) = some (.normal, psI 5 0 x b m) := by kernel_rfl
theorem psm_5_0 : gCut Try.prog { gam := gamN o } 26 prM (psI 5 0 x b m) nG (psK ++ [nF]) (prT [8, 10, 13]) = some (.normal, psI 5 1 x (pmO o b (fun k => x k 5) (fun k => x k 0)).2 (setM m 5 0 (pmO o b (fun k => x k 5) (fun k => x k 0)).1)) := by kernel_rfl
theorem psm_5_1 : gCut Try.prog { gam := gamN o } 26 prM (psI 5 1 x b m) nG (psK ++ [nF]) (prT [8, 10, 13]) = some (.normal, psI 5 2 x (pmO o b (fun k => x k 5) (fun k => x k 1)).2 (setM m 5 1 (pmO o b (fun k => x k 5) (fun k => x k 1)).1)) := by kernel_rfl
theorem psm_5_2 : gCut Try.prog { gam := gamN o } 26 prM (psI 5 2 x b m) nG (psK ++ [nF]) (prT [8, 10, 13]) = some (.normal, psI 5 3 x (pmO o b (fun k => x k 5) (fun k => x k 2)).2 (setM m 5 2 (pmO o b (fun k => x k 5) (fun k => x k 2)).1)) := by kernel_rfl
theorem psm_5_3 : gCut Try.prog { gam := gamN o } 26 prM (psI 5 3 x b m) nG (psK ++ [nF]) (prT [8, 10, 13]) = some (.normal, psI 5 4 x (pmO o b (fun k => x k 5) (fun k => x k 3)).2 (setM m 5 3 (pmO o b (fun k => x k 5) (fun k => x k 3)).1)) := by kernel_rfl
theorem psm_5_4 : gCut Try.prog { gam := gamN o } 26 prM (psI 5 4 x b m) nG (psK ++ [nF]) (prT [8, 10, 13]) = some (.normal, psI 5 5 x (pmO o b (fun k => x k 5) (fun k => x k 4)).2 (setM m 5 4 (pmO o b (fun k => x k 5) (fun k => x k 4)).1)) := by kernel_rfl
theorem psm_5_5 : gCut Try.prog { gam := gamN o } 26 prM (psI 5 5 x b m) nG (psK ++ [nF]) (prT [8, 10, 13]) = some (.normal, psI 5 6 x (pmO o b (fun k => x k 5) (fun k => x k 5)).2 (setM m 5 5 (pmO o b (fun k => x k 5) (fun k => x k 5)).1)) := by kernel_rfl
theorem psm_5_6 : gCut Try.prog { gam := gamN o } 26 prM (psI 5 6 x b m) nG (psK ++ [nF]) (prT [8, 10]) = some (.exit 2, psJ 5 x b m) := by kernel_rfl
theorem psc_5 : gRun Try.prog { gam := gamN o } 26 pr10 (psJ 5 x b m) psK (prT [10]) = some (.normal, { psO 6 x b m with lo := nG }) := by kernel_rfl
theorem pso_5 (j : Int) : okClean nG (psI 5 j x b m) = true := by kernel_rfl
theorem psp_5 : okClean nG (psJ 5 x b m) = true := by kernel_rfl
theorem psW_0 : okClean nF ({ psO 1 x b m with lo := nG } : St) = true := by kernel_rfl
theorem psW_1 : okClean nF ({ psO 2 x b m with lo := nG } : St) = true := by kernel_rfl
theorem psW_2 : okClean nF ({ psO 3 x b m with lo := nG } : St) = true := by kernel_rfl
theorem psW_3 : okClean nF ({ psO 4 x b m with lo := nG } : St) = true := by kernel_rfl
theorem psW_4 : okClean nF ({ psO 5 x b m with lo := nG } : St) = true := by kernel_rfl
theorem psW_5 : okClean nF ({ psO 6 x b m with lo := nG } : St) = true := by kernel_rfl
theorem psx : gCut Try.prog { gam := gamN o } 26 prL (psO 6 x b m) nF psK (prT []) = some (.exit 0, prS [] (psH x b m []) nF) := by kernel_rfl
theorem psy : okClean nF (prS [] (psH x b m []) nF) = true := by kernel_rfl
theorem pse : gRun Try.prog { gam := gamN o } 26 prE (prS [] (psH x b m []) nF) [0, 1, nD] [6] = some (.ret, psF x b m) := by kernel_rfl
theorem psr : resA Try.prog (psF x b m) Try.f108.results.toList = some [.val (Cod.enc (M6.of m))] := by kernel_rfl
end
section
variable {o : Ops} (hG : GamOk Try.prog ({ gam := gamN o } : Env).gam) (x m : Mx) (b : Bool)
include hG
omit hG in
theorem pslo (i j : Int) : (psI i j x b m).lo = nG := rfl
omit hG in
theorem pslo1 (i : Int) : (psO i x b m).lo = nF := rfl
theorem psM_0_0 : RunsTo Try.prog 26 prM (psI 0 0 x b m) .normal (psI 0 1 x (pmO o b (fun k => x k 0) (fun k => x k 0)).2 (setM m 0 0 (pmO o b (fun k => x k 0) (fun k => x k 0)).1)) := gCut_runs hG (psm_0_0 o x m b) (pslo ..) (pso_0 ..) rfl
theorem psM_0_1 : RunsTo Try.prog 26 prM (psI 0 1 x b m) .normal (psI 0 2 x (pmO o b (fun k => x k 0) (fun k => x k 1)).2 (setM m 0 1 (pmO o b (fun k => x k 0) (fun k => x k 1)).1)) := gCut_runs hG (psm_0_1 o x m b) (pslo ..) (pso_0 ..) rfl
theorem psM_0_2 : RunsTo Try.prog 26 prM (psI 0 2 x b m) .normal (psI 0 3 x (pmO o b (fun k => x k 0) (fun k => x k 2)).2 (setM m 0 2 (pmO o b (fun k => x k 0) (fun k => x k 2)).1)) := gCut_runs hG (psm_0_2 o x m b) (pslo ..) (pso_0 ..) rfl
theorem psM_0_3 : RunsTo Try.prog 26 prM (psI 0 3 x b m) .normal (psI 0 4 x (pmO o b (fun k => x k 0) (fun k => x k 3)).2 (setM m 0 3 (pmO o b (fun k => x k 0) (fun k => x k 3)).1)) := gCut_runs hG (psm_0_3 o x m b) (pslo ..) (pso_0 ..) rfl
theorem psM_0_4 : RunsTo Try.prog 26 prM (psI 0 4 x b m) .normal (psI 0 5 x (pmO o b (fun k => x k 0) (fun k => x k 4)).2 (setM m 0 4 (pmO o b (fun k => x k 0) (fun k => x k 4)).1)) := gCut_runs hG (psm_0_4 o x m b) (pslo ..) (pso_0 ..) rfl
theorem psM_0_5 : RunsTo Try.prog 26 prM (psI 0 5 x b m) .normal (psI 0 6 x (pmO o b (fun k => x k 0) (fun k => x k 5)).2 (setM m 0 5 (pmO o b (fun k => x k 0) (fun k => x k 5)).1)) := gCut_runs hG (psm_0_5 o x m b) (pslo ..) (pso_0 ..) rfl
theorem psM_0_6 : RunsTo Try.prog 26 prM (psI 0 6 x b m) (.exit 2) (psJ 0 x b m) := gCut_runs hG (psm_0_6 o x m b) (pslo ..) (psp_0 ..) rfl
theorem psN_0 : RunsTo Try.prog 26 (.block 2 (.loop prM)) (psI 0 0 x b m) .normal (psJ 0 x (prI_F o x x 0 (m, b)).2 (prI_F o x x 0 (m, b)).1) :=
  RunsTo.rounds (P := Try.prog) (N := 26) (c := prM) (id := 2) 6 (fun j z => psI 0 j x z.2 z.1) (fun z => psJ 0 x z.2 z.1) (prJ_F o x x 0)
    (fun j z hj => match j, hj with
      | 0, _ => psM_0_0 hG x z.1 z.2
      | 1, _ => psM_0_1 hG x z.1 z.2
      | 2, _ => psM_0_2 hG x z.1 z.2
      | 3, _ => psM_0_3 hG x z.1 z.2
      | 4, _ => psM_0_4 hG x z.1 z.2
      | 5, _ => psM_0_5 hG x z.1 z.2
      | n + 6, h => absurd h (by omega))
    (fun z => psM_0_6 hG x z.1 z.2) (m, b)
theorem psR_0 : RunsTo Try.prog 26 prL (psO 0 x b m) .normal (psO 1 x (prI_F o x x 0 (m, b)).2 (prI_F o x x 0 (m, b)).1) := by
  rw [prL_is]
  have h := (gRun_runs hG (psb_0 o x m b)).seq ((gRun_runs hG (psB_0 o x m b)).seq (psN_0 hG x m b))
  generalize prI_F o x x 0 (m, b) = z at h ⊢
  exact ((gRun_runs hG (psa_0 o x m b)).seq ((gRun_runs hG (psA_0 o x m b)).seq ((h.block (.inl rfl)).seq (gRun_runs hG (psc_0 o x z.1 z.2))))).freed (pslo1 ..) (psW_0 ..) rfl
theorem psM_1_0 : RunsTo Try.prog 26 prM (psI 1 0 x b m) .normal (psI 1 1 x (pmO o b (fun k => x k 1) (fun k => x k 0)).2 (setM m 1 0 (pmO o b (fun k => x k 1) (fun k => x k 0)).1)) := gCut_runs hG (psm_1_0 o x m b) (pslo ..) (pso_1 ..) rfl
theorem psM_1_1 : RunsTo Try.prog 26 prM (psI 1 1 x b m) .normal (psI 1 2 x (pmO o b (fun k => x k 1) (fun k => x k 1)).2 (setM m 1 1 (pmO o b (fun k => x k 1) (fun k => x k 1)).1)) := gCut_runs hG (psm_1_1 o x m b) (pslo ..) (pso_1 ..) rfl
theorem psM_1_2 : RunsTo Try.prog 26 prM (psI 1 2 x b m) .normal (psI 1 3 x (pmO o b (fun k => x k 1) (fun k => x k 2)).2 (setM m 1 2 (pmO o b (fun k => x k 1) (fun k => x k 2)).1)) := gCut_runs hG (psm_1_2 o x m b) (pslo ..) (pso_1 ..) rfl
theorem psM_1_3 : RunsTo Try.prog 26 prM (psI 1 3 x b m) .normal (psI 1 4 x (pmO o b (fun k => x k 1) (fun k => x k 3)).2 (setM m 1 3 (pmO o b (fun k => x k 1) (fun k => x k 3)).1)) := gCut_runs hG (psm_1_3 o x m b) (pslo ..) (pso_1 ..) rfl
theorem psM_1_4 : RunsTo Try.prog 26 prM (psI 1 4 x b m) .normal (psI 1 5 x (pmO o b (fun k => x k 1) (fun k => x k 4)).2 (setM m 1 4 (pmO o b (fun k => x k 1) (fun k => x k 4)).1)) := gCut_runs hG (psm_1_4 o x m b) (pslo ..) (pso_1 ..) rfl
theorem psM_1_5 : RunsTo Try.prog 26 prM (psI 1 5 x b m) .normal (psI 1 6 x (pmO o b (fun k => x k 1) (fun k => x k 5)).2 (setM m 1 5 (pmO o b (fun k => x k 1) (fun k => x k 5)).1)) := gCut_runs hG (psm_1_5 o x m b) (pslo ..) (pso_1 ..) rfl
theorem psM_1_6 : RunsTo Try.prog 26 prM (psI 1 6 x b m) (.exit 2) (psJ 1 x b m) := gCut_runs hG (psm_1_6 o x m b) (pslo ..) (psp_1 ..) rfl
theorem psN_1 : RunsTo Try.prog 26 (.block 2 (.loop prM)) (psI 1 0 x b m) .normal (psJ 1 x (prI_F o x x 1 (m, b)).2 (prI_F o x x 1 (m, b)).1) :=
  RunsTo.rounds (P := Try.prog) (N := 26) (c := prM) (id := 2) 6 (fun j z => psI 1 j x z.2 z.1) (fun z => psJ 1 x z.2 z.1) (prJ_F o x x 1)
    (fun j z hj => match j, hj with
      | 0, _ => psM_1_0 hG x z.1 z.2
      | 1, _ => psM_1_1 hG x z.1 z.2
      | 2, _ => psM_1_2 hG x z.1 z.2
      | 3, _ => psM_1_3 hG x z.1 z.2
      | 4, _ => psM_1_4 hG x z.1 z.2
      | 5, _ => psM_1_5 hG x z.1 z.2
      | n + 6, h => absurd h (by omega))
    (fun z => psM_1_6 hG x z.1 z.2) (m, b)
theorem psR_1 : RunsTo Try.prog 26 prL (psO 1 x b m) .normal (psO 2 x (prI_F o x x 1 (m, b)).2 (prI_F o x x 1 (m, b)).1) := by
  rw [prL_is]
  have h := (gRun_runs hG (psb_1 o x m b)).seq ((gRun_runs hG (psB_1 o x m b)).seq (psN_1 hG x m b))
  generalize prI_F o x x 1 (m, b) = z at h ⊢
  exact ((gRun_runs hG (psa_1 o x m b)).seq ((gRun_runs hG (psA_1 o x m b)).seq ((h.block (.inl rfl)).seq (gRun_runs hG (psc_1 o x z.1 z.2))))).freed (pslo1 ..) (psW_1 ..) rfl
theorem psM_2_0 : RunsTo Try.prog 26 prM (psI 2 0 x b m) .normal (psI 2 1 x (pmO o b (fun k => x k 2) (fun k => x k 0)).2 (setM m 2 0 (pmO o b (fun k => x k 2) (fun k => x k 0)).1)) := gCut_runs hG (psm_2_0 o x m b) (pslo ..) (pso_2 ..) rfl
theorem psM_2_1 : RunsTo Try.prog 26 prM (psI 2 1 x b m) .normal (psI 2 2 x (pmO o b (fun k => x k 2) (fun k => x k 1)).2 (setM m 2 1 (pmO o b (fun k => x k 2) (fun k => x k 1)).1)) := gCut_runs hG (psm_2_1 o x m b) (pslo ..) (pso_2 ..) rfl
theorem psM_2_2 : RunsTo Try.prog 26 prM (psI 2 2 x b m) .normal (psI 2 3 x (pmO o b (fun k => x k 2) (fun k => x k 2)).2 (setM m 2 2 (pmO o b (fun k => x k 2) (fun k => x k 2)).1)) := gCut_runs hG (psm_2_2 o x m b) (pslo ..) (pso_2 ..) rfl
theorem psM_2_3 : RunsTo Try.prog 26 prM (psI 2 3 x b m) .normal (psI 2 4 x (pmO o b (fun k => x k 2) (fun k => x k 3)).2 (setM m 2 3 (pmO o b (fun k => x k 2) (fun k => x k 3)).1)) := gCut_runs hG (psm_2_3 o x m b) (pslo ..) (pso_2 ..) rfl
theorem psM_2_4 : RunsTo Try.prog 26 prM (psI 2 4 x b m) .normal (psI 2 5 x (pmO o b (fun k => x k 2) (fun k => x k 4)).2 (setM m 2 4 (pmO o b (fun k => x k 2) (fun k => x k 4)).1)) := gCut_runs hG (psm_2_4 o x m b) (pslo ..) (pso_2 ..) rfl
theorem psM_2_5 : RunsTo Try.prog 26 prM (psI 2 5 x b m) .normal (psI 2 6 x (pmO o b (fun k => x k 2) (fun k => x k 5)).2 (setM m 2 5 (pmO o b (fun k => x k 2) (fun k => x k 5)).1)) := gCut_runs hG (psm_2_5 o x m b) (pslo ..) (pso_2 ..) rfl
theorem psM_2_6 : RunsTo Try.prog 26 prM (psI 2 6 x b m) (.exit 2) (psJ 2 x b m) := gCut_runs hG (psm_2_6 o x m b) (pslo ..) (psp_2 ..) rfl
theorem psN_2 : RunsTo Try.prog 26 (.block 2 (.loop prM)) (psI 2 0 x b m) .normal (psJ 2 x (prI_F o x x 2 (m, b)).2 (prI_F o x x 2 (m, b)).1) :=
  RunsTo.rounds (P := Try.prog) (N := 26) (c := prM) (id := 2) 6 (fun j z => psI 2 j x z.2 z.1) (fun z => psJ 2 x z.2 z.1) (prJ_F o x x 2)
    (fun j z hj => match j, hj with
      | 0, _ => psM_2_0 hG x z.1 z.2
      | 1, _ => psM_2_1 hG x z.1 z.2
      | 2, _ => psM_2_2 hG x z.1 z.2
      | 3, _ => psM_2_3 hG x z.1 z.2
      | 4, _ => psM_2_4 hG x z.1 z.2
      | 5, _ => psM_2_5 hG x z.1 z.2
      | n + 6, h => absurd h (by omega))
    (fun z => psM_2_6 hG x z.1 z.2) (m, b)
theorem psR_2 : RunsTo Try.prog 26 prL (psO 2 x b m) .normal (psO 3 x (prI_F o x x 2 (m, b)).2 (prI_F o x x 2 (m, b)).1) := by
  rw [prL_is]
  have h := (gRun_runs hG (psb_2 o x m b)).seq ((gRun_runs hG (psB_2 o x m b)).seq (psN_2 hG x m b))
  generalize prI_F o x x 2 (m, b) = z at h ⊢
  exact ((gRun_runs hG (psa_2 o x m b)).seq ((gRun_runs hG (psA_2 o x m b)).seq ((h.block (.inl rfl)).seq (gRun_runs hG (psc_2 o x z.1 z.2))))).freed (pslo1 ..) (psW_2 ..) rfl
theorem psM_3_0 : RunsTo Try.prog 26 prM (psI 3 0 x b m) .normal (psI 3 1 x (pmO o b (fun k => x k 3) (fun k => x k 0)).2 (setM m 3 0 (pmO o b (fun k => x k 3) (fun k => x k 0)).1)) := gCut_runs hG (psm_3_0 o x m b) (pslo ..) (pso_3 ..) rfl
theorem psM_3_1 : RunsTo Try.prog 26 prM (psI 3 1 x b m) .normal (psI 3 2 x (pmO o b (fun k => x k 3) (fun k => x k 1)).2 (setM m 3 1 (pmO o b (fun k => x k 3) (fun k => x k 1)).1)) := gCut_runs hG (psm_3_1 o x m b) (pslo ..) (pso_3 ..) rfl
theorem psM_3_2 : RunsTo Try.prog 26 prM (psI 3 2 x b m) .normal (psI 3 3 x (pmO o b (fun k => x k 3) (fun k => x k 2)).2 (setM m 3 2 (pmO o b (fun k => x k 3) (fun k => x k 2)).1)) := gCut_runs hG (psm_3_2 o x m b) (pslo ..) (pso_3 ..) rfl
theorem psM_3_3 : RunsTo Try.prog 26 prM (psI 3 3 x b m) .normal (psI 3 4 x (pmO o b (fun k => x k 3) (fun k => x k 3)).2 (setM m 3 3 (pmO o b (fun k => x k 3) (fun k => x k 3)).1)) := gCut_runs hG (psm_3_3 o x m b) (pslo ..) (pso_3 ..) rfl
theorem psM_3_4 : RunsTo Try.prog 26 prM (psI 3 4 x b m) .normal (psI 3 5 x (pmO o b (fun k => x k 3) (fun k => x k 4)).2 (setM m 3 4 (pmO o b (fun k => x k 3) (fun k => x k 4)).1)) := gCut_runs hG (psm_3_4 o x m b) (pslo ..) (pso_3 ..) rfl
theorem psM_3_5 : RunsTo Try.prog 26 prM (psI 3 5 x b m) .normal (psI 3 6 x (pmO o b (fun k => x k 3) (fun k => x k 5)).2 (setM m 3 5 (pmO o b (fun k => x k 3) (fun k => x k 5)).1)) := gCut_runs hG (psm_3_5 o x m b) (pslo ..) (pso_3 ..) rfl
theorem psM_3_6 : RunsTo Try.prog 26 prM (psI 3 6 x b m) (.exit 2) (psJ 3 x b m) := gCut_runs hG (psm_3_6 o x m b) (pslo ..) (psp_3 ..) rfl
theorem psN_3 : RunsTo Try.prog 26 (.block 2 (.loop prM)) (psI 3 0 x b m) .normal (psJ 3 x (prI_F o x x 3 (m, b)).2 (prI_F o x x 3 (m, b)).1) :=
  RunsTo.rounds (P := Try.prog) (N := 26) (c := prM) (id := 2) 6 (fun j z => psI 3 j x z.2 z.1) (fun z => psJ 3 x z.2 z.1) (prJ_F o x x 3)
    (fun j z hj => match j, hj with
      | 0, _ => psM_3_0 hG x z.1 z.2
      | 1, _ => psM_3_1 hG x z.1 z.2
      | 2, _ => psM_3_2 hG x z.1 z.2
      | 3, _ => psM_3_3 hG x z.1 z.2
      | 4, _ => psM_3_4 hG x z.1 z.2
      | 5, _ => psM_3_5 hG x z.1 z.2
      | n + 6, h => absurd h (by omega))
    (fun z => psM_3_6 hG x z.1 z.2) (m, b)
theorem psR_3 : RunsTo Try.prog 26 prL (psO 3 x b m) .normal (psO 4 x (prI_F o x x 3 (m, b)).2 (prI_F o x x 3 (m, b)).1) := by
  rw [prL_is]
  have h := (gRun_runs hG (psb_3 o x m b)).seq ((gRun_runs hG (psB_3 o x m b)).seq (psN_3 hG x m b))
  generalize prI_F o x x 3 (m, b) = z at h ⊢
  exact ((gRun_runs hG (psa_3 o x m b)).seq ((gRun_runs hG (psA_3 o x m b)).seq ((h.block (.inl rfl)).seq (gRun_runs hG (psc_3 o x z.1 z.2))))).freed (pslo1 ..) (psW_3 ..) rfl
theorem psM_4_0 : RunsTo Try.prog 26 prM (psI 4 0 x b m) .normal (psI 4 1 x (pmO o b (fun k => x k 4) (fun k => x k 0)).2 (setM m 4 0 (pmO o b (fun k => x k 4) (fun k => x k 0)).1)) := gCut_runs hG (psm_4_0 o x m b) (pslo ..) (pso_4 ..) rfl
theorem psM_4_1 : RunsTo Try.prog 26 prM (psI 4 1 x b m) .normal (psI 4 2 x (pmO o b (fun k => x k 4) (fun k => x k 1)).2 (setM m 4 1 (pmO o b (fun k => x k 4) (fun k => x k 1)).1)) := gCut_runs hG (psm_4_1 o x m b) (pslo ..) (pso_4 ..) rfl
theorem psM_4_2 : RunsTo Try.prog 26 prM (psI 4 2 x b m) .normal (psI 4 3 x (pmO o b (fun k => x k 4) (fun k => x k 2)).2 (setM m 4 2 (pmO o b (fun k => x k 4) (fun k => x k 2)).1)) := gCut_runs hG (psm_4_2 o x m b) (pslo ..) (pso_4 ..) rfl
theorem psM_4_3 : RunsTo Try.prog 26 prM (psI 4 3 x b m) .normal (psI 4 4 x (pmO o b (fun k => x k 4) (fun k => x k 3)).2 (setM m 4 3 (pmO o b (fun k => x k 4) (fun k => x k 3)).1)) := gCut_runs hG (psm_4_3 o x m b) (pslo ..) (pso_4 ..) rfl
theorem psM_4_4 : RunsTo Try.prog 26 prM (psI 4 4 x b m) .normal (psI 4 5 x (pmO o b (fun k => x k 4) (fun k => x k 4)).2 (setM m 4 4 (pmO o b (fun k => x k 4) (fun k => x k 4)).1)) := gCut_runs hG (psm_4_4 o x m b) (pslo ..) (pso_4 ..) rfl
theorem psM_4_5 : RunsTo Try.prog 26 prM (psI 4 5 x b m) .normal (psI 4 6 x (pmO o b (fun k => x k 4) (fun k => x k 5)).2 (setM m 4 5 (pmO o b (fun k => x k 4) (fun k => x k 5)).1)) := gCut_runs hG (psm_4_5 o x m b) (pslo ..) (pso_4 ..) rfl
theorem psM_4_6 : RunsTo Try.prog 26 prM (psI 4 6 x b m) (.exit 2) (psJ 4 x b m) := gCut_runs hG (psm_4_6 o x m b) (pslo ..) (psp_4 ..) rfl
theorem psN_4 : RunsTo Try.prog 26 (.block 2 (.loop prM)) (psI 4 0 x b m) .normal (psJ 4 x (prI_F o x x 4 (m, b)).2 (prI_F o x x 4 (m, b)).1) :=
  RunsTo.rounds (P := Try.prog) (N := 26) (c := prM) (id := 2) 6 (fun j z => psI 4 j x z.2 z.1) (fun z => psJ 4 x z.2 z.1) (prJ_F o x x 4)
    (fun j z hj => match j, hj with
      | 0, _ => psM_4_0 hG x z.1 z.2
      | 1, _ => psM_4_1 hG x z.1 z.2
      | 2, _ => psM_4_2 hG x z.1 z.2
      | 3, _ => psM_4_3 hG x z.1 z.2
      | 4, _ => psM_4_4 hG x z.1 z.2
      | 5, _ => psM_4_5 hG x z.1 z.2
      | n + 6, h => absurd h (by omega))
    (fun z => psM_4_6 hG x z.1 z.2) (m, b)
theorem psR_4 : RunsTo Try.prog 26 prL (psO 4 x b m) .normal (psO 5 x (prI_F o x x 4 (m, b)).2 (prI_F o x x 4 (m, b)).1) := by
  rw [prL_is]
  have h := (gRun_runs hG (psb_4 o x m b)).seq ((gRun_runs hG (psB_4 o x m b)).seq (psN_4 hG x m b))
  generalize prI_F o x x 4 (m, b) = z at h ⊢
  exact ((gRun_runs hG (psa_4 o x m b)).seq ((gRun_runs hG (psA_4 o x m b)).seq ((h.block (.inl rfl)).seq (gRun_runs hG (psc_4 o x z.1 z.2))))).freed (pslo1 ..) (psW_4 ..) rfl
theorem psM_5_0 : RunsTo Try.prog 26 prM (psI 5 0 x b m) .normal (psI 5 1 x (pmO o b (fun k => x k 5) (fun k => x k 0)).2 (setM m 5 0 (pmO o b (fun k => x k 5) (fun k => x k 0)).1)) := gCut_runs hG (psm_5_0 o x m b) (pslo ..) (pso_5 ..) rfl
theorem psM_5_1 : RunsTo Try.prog 26 prM (psI 5 1 x b m) .normal (psI 5 2 x (pmO o b (fun k => x k 5) (fun k => x k 1)).2 (setM m 5 1 (pmO o b (fun k => x k 5) (fun k => x k 1)).1)) := gCut_runs hG (psm_5_1 o x m b) (pslo ..) (pso_5 ..) rfl
theorem psM_5_2 : RunsTo Try.prog 26 prM (psI 5 2 x b m) .normal (psI 5 3 x (pmO o b (fun k => x k 5) (fun k => x k 2)).2 (setM m 5 2 (pmO o b (fun k => x k 5) (fun k => x k 2)).1)) := gCut_runs hG (psm_5_2 o x m b) (pslo ..) (pso_5 ..) rfl
theorem psM_5_3 : RunsTo Try.prog 26 prM (psI 5 3 x b m) .normal (psI 5 4 x (pmO o b (fun k => x k 5) (fun k => x k 3)).2 (setM m 5 3 (pmO o b (fun k => x k 5) (fun k => x k 3)).1)) := gCut_runs hG (psm_5_3 o x m b) (pslo ..) (pso_5 ..) rfl
theorem psM_5_4 : RunsTo Try.prog 26 prM (psI 5 4 x b m) .normal (psI 5 5 x (pmO o b (fun k => x k 5) (fun k => x k 4)).2 (setM m 5 4 (pmO o b (fun k => x k 5) (fun k => x k 4)).1)) := gCut_runs hG (psm_5_4 o x m b) (pslo ..) (pso_5 ..) rfl
theorem psM_5_5 : RunsTo Try.prog 26 prM (psI 5 5 x b m) .normal (psI 5 6 x (pmO o b (fun k => x k 5) (fun k => x k 5)).2 (setM m 5 5 (pmO o b (fun k => x k 5) (fun k => x k 5)).1)) := gCut_runs hG (psm_5_5 o x m b) (pslo ..) (pso_5 ..) rfl
theorem psM_5_6 : RunsTo Try.prog 26 prM (psI 5 6 x b m) (.exit 2) (psJ 5 x b m) := gCut_runs hG (psm_5_6 o x m b) (pslo ..) (psp_5 ..) rfl
theorem psN_5 : RunsTo Try.prog 26 (.block 2 (.loop prM)) (psI 5 0 x b m) .normal (psJ 5 x (prI_F o x x 5 (m, b)).2 (prI_F o x x 5 (m, b)).1) :=
  RunsTo.rounds (P := Try.prog) (N := 26) (c := prM) (id := 2) 6 (fun j z => psI 5 j x z.2 z.1) (fun z => psJ 5 x z.2 z.1) (prJ_F o x x 5)
    (fun j z hj => match j, hj with
      | 0, _ => psM_5_0 hG x z.1 z.2
      | 1, _ => psM_5_1 hG x z.1 z.2
      | 2, _ => psM_5_2 hG x z.1 z.2
      | 3, _ => psM_5_3 hG x z.1 z.2
      | 4, _ => psM_5_4 hG x z.1 z.2
      | 5, _ => psM_5_5 hG x z.1 z.2
      | n + 6, h => absurd h (by omega))
    (fun z => psM_5_6 hG x z.1 z.2) (m, b)
theorem psR_5 : RunsTo Try.prog 26 prL (psO 5 x b m) .normal (psO 6 x (prI_F o x x 5 (m, b)).2 (prI_F o x x 5 (m, b)).1) := by
  rw [prL_is]
  have h := (gRun_runs hG (psb_5 o x m b)).seq ((gRun_runs hG (psB_5 o x m b)).seq (psN_5 hG x m b))
  generalize prI_F o x x 5 (m, b) = z at h ⊢
  exact ((gRun_runs hG (psa_5 o x m b)).seq ((gRun_runs hG (psA_5 o x m b)).seq ((h.block (.inl rfl)).seq (gRun_runs hG (psc_5 o x z.1 z.2))))).freed (pslo1 ..) (psW_5 ..) rfl
theorem psX : RunsTo Try.prog 26 prL (psO 6 x b m) (.exit 0) (prS [] (psH x b m []) nF) := gCut_runs hG (psx o x m b) (pslo1 ..) (psy ..) rfl
theorem psL : RunsTo Try.prog 26 (.block 0 (.loop prL)) (psO 0 x b m) .normal (prS [] (psH x (iterF (prI_F o x x) 0 6 (m, b)).2 (iterF (prI_F o x x) 0 6 (m, b)).1 []) nF) :=
  RunsTo.rounds (P := Try.prog) (N := 26) (c := prL) (id := 0) 6 (fun i z => psO i x z.2 z.1) (fun z => prS [] (psH x z.2 z.1 []) nF) (prI_F o x x)
    (fun i z hi => match i, hi with
      | 0, _ => psR_0 hG x z.1 z.2
      | 1, _ => psR_1 hG x z.1 z.2
      | 2, _ => psR_2 hG x z.1 z.2
      | 3, _ => psR_3 hG x z.1 z.2
      | 4, _ => psR_4 hG x z.1 z.2
      | 5, _ => psR_5 hG x z.1 z.2
      | n + 6, h => absurd h (by omega))
    (fun z => psX hG x z.1 z.2) (m, b)
omit m in
theorem ps_runs : RunsTo Try.prog 26 prC (startS 26 [.ptr 0 0, .ptr 1 0, .ptr 1 0] [.row 25 [.val (.bool b)], .row 111 (cells13 x)]) .ret (psF x (prodO o b x x).2 (prodO o b x x).1) := by
  have hc : prC = .seq pr0 (.seq pr1 (.seq (.seq pr2 (.block 0 (.loop prL))) prE)) := by
    unfold prC
    rw [prC_is]
    rfl
  rw [hc]
  have hL := psL hG x mx0 b
  unfold prodO
  generalize iterF (prI_F o x x) 0 6 (mx0, b) = z at hL ⊢
  exact (gRun_runs hG (ps0 o x b)).seq ((gRun_runs hG (ps1 o x b)).seq (((gRun_runs hG (ps2 o x b)).seq hL).seq (gRun_runs hG (pse o x z.1 z.2))))
end
end Go.Ab
/- The filter's products, of rows in two blocks. -/
namespace Go.Ab
open Go Go.Proofs
def pdH (x y : Mx) (b : Bool) (m : Mx) (e : List (Nat × Con)) : Hp := [(0, .row 25 [.val (.bool b)]), (1, .row 111 (cells13 x)), (2, .row 111 (cells13 y)), (nA, .row 23 [.ptr 0 0]), (nB, .row 119 [.ptr 1 0]), (nC, .row 119 [.ptr 2 0]), (nD, .row 47 (cells36 mx0)), (nE, .row 47 (cells36 m))] ++ e
abbrev pdK : List Nat := [0, 1, 2, nA, nB, nC, nD, nE]
def pdO (i : Int) (x y : Mx) (b : Bool) (m : Mx) : St := prS [(10, .val (.int .i64 i))] (pdH x y b m []) nF
def pdI (i j : Int) (x y : Mx) (b : Bool) (m : Mx) : St := prS [(8, .ptr nF 0), (10, .val (.int .i64 i)), (13, .val (.int .i64 j))] (pdH x y b m [(nF, .row 3 [.val (.int .i64 i)])]) nG
def pdJ (i : Int) (x y : Mx) (b : Bool) (m : Mx) : St := prS [(8, .ptr nF 0), (10, .val (.int .i64 i))] (pdH x y b m [(nF, .row 3 [.val (.int .i64 i)])]) nG
def pdF (x y : Mx) (b : Bool) (m : Mx) : St := gSt 26 [(6, .ptr nD 0)] [(0, .row 25 [.val (.bool b)]), (1, .row 111 (cells13 x)), (2, .row 111 (cells13 y)), (nD, .row 47 (cells36 m))] nF
section
variable (o : Ops) (x y m : Mx) (b : Bool)
theorem pd0 : gRun Try.prog { gam := gamN o } 26 pr0 (startS 26 [.ptr 0 0, .ptr 1 0, .ptr 2 0] [.row 25 [.val (.bool b)], .row 111 (cells13 x), .row 111 (cells13 y)]) [0, 1, 2, nA, nB, nC, nD] [3, 4, 5, 6] = some (.normal, gSt 26 [(3, .ptr nA 0), (4, .ptr nB 0), (5, .ptr nC 0), (6, .ptr nD 0)] [(0, .row 25 [.val (.bool b)]), (1, .row 111 (cells13 x)), (2, .row 111 (cells13 y)), (nA, .row 23 [.ptr 0 0]), (nB, .row 119 [.ptr 1 0]), (nC, .row 119 [.ptr 2 0]), (nD, .row 47 (cells36 mx0))] nE) := by kernel_rfl
def pdQ (x y : Mx) (b : Bool) : St := gSt 26 [(3, .ptr nA 0), (4, .ptr nB 0), (5, .ptr nC 0), (6, .ptr nD 0)] [(0, .row 25 [.val (.bool b)]), (1, .row 111 (cells13 x)), (2, .row 111 (cells13 y)), (nA, .row 23 [.ptr 0 0]), (nB, .row 119 [.ptr 1 0]), (nC, .row 119 [.ptr 2 0]), (nD, .row 47 (cells36 mx0))] nE
theorem pd1 : gRun Try.prog { gam := gamN o } 26 pr1 (pdQ x y b) pdK (prT []) = some (.normal, prS [] (pdH x y b mx0 []) nF) := by kernel_rfl
theorem pd2 : gRun Try.prog { gam := gamN o } 26 pr2 (prS [] (pdH x y b mx0 []) nF) pdK (prT [10]) = some (.normal, pdO 0 x y b mx0) := by kernel_rfl
def pdU_0 (x y : Mx) (b : Bool) (m : Mx) : St := prS [(10, .val (.int .i64 0)), (11, .val (.bool true))] (pdH x y b m []) nF
theorem pda_0 : gRun Try.prog { gam := gamN o } 26 pr3 (pdO 0 x y b m) pdK (prT [10, 11]) = some (.normal, pdU_0 x y b m) := by kernel_rfl
theorem pdA_0 : gRun Try.prog { gam := gamN o } 26 pr3b (pdU_0 x y b m) pdK (prT [10]) = some (.normal, pdO 0 x y b m) := by kernel_rfl
theorem pdb_0 : gRun Try.prog { gam := gamN o } 26 pr4 (pdO 0 x y b m) (pdK ++ [nF]) (prT [8, 10]) = some (.normal, pdJ 0 x y b m) := by kernel_rfl
theorem pdB_0 : gRun Try.prog { gam := gamN o } 26 pr5 (pdJ 0 x y b m) (pdK ++ [nF]) (prT [8, 10, 13]) = some (.normal, pdI 0 0 x y b m) := by kernel_rfl
theorem pdm_0_0 : gCut Try.prog { gam := gamN o } 26 prM (pdI 0 0 x y b m) nG (pdK ++ [nF]) (prT [8, 10, 13]) = some (.normal, pdI 0 1 x y (pmO o b (fun k => x k 0) (fun k => y k 0)).2 (setM m 0 0 (pmO o b (fun k => x k 0) (fun k => y k 0)).1)) := by kernel_rfl
theorem pdm_0_1 : gCut Try.prog { gam := gamN o } 26 prM (pdI 0 1 x y b m) nG (pdK ++ [nF]) (prT [8, 10, 13]) = some (.normal, pdI 0 2 x y (pmO o b (fun k => x k 0) (fun k => y k 1)).2 (setM m 0 1 (pmO o b (fun k => x k 0) (fun k => y k 1)).1)) := by kernel_rfl
theorem pdm_0_2 : gCut Try.prog { gam := gamN o } 26 prM (pdI 0 2 x y b m) nG (pdK ++ [nF]) (prT [8, 10, 13]) = some (.normal, pdI 0 3 x y (pmO o b (fun k => x k 0) (fun k => y k 2)).2 (setM m 0 2 (pmO o b (fun k => x k 0) (fun k => y k 2)).1)) := by kernel_rfl
theorem pdm_0_3 : gCut Try.prog { gam := gamN o } 26 prM (pdI 0 3 x y b m) nG (pdK ++ [nF]) (prT [8, 10, 13]) = some (.normal, pdI 0 4 x y (pmO o b (fun k => x k 0) (fun k => y k 3)).2 (setM m 0 3 (pmO o b (fun k => x k 0) (fun k => y k 3)).1)) := by kernel_rfl
theorem pdm_0_4 : gCut Try.prog { gam := gamN o } 26 prM (pdI 0 4 x y b m) nG (pdK ++ [nF]) (prT [8, 10, 13]) = some (.normal, pdI 0 5 x y (pmO o b (fun k => x k 0) (fun k => y k 4)).2 (setM m 0 4 (pmO o b (fun k => x k 0) (fun k => y k 4)).1)) := by kernel_rfl
theorem pdm_0_5 : gCut Try.prog { gam := gamN o } 26 prM (pdI 0 5 x y b m) nG (pdK ++ [nF]) (prT [8, 10, 13]) = some (.normal, pdI 0 6 x y (pmO o b (fun k => x k 0) (fun k => y k 5)).2 (setM m 0 5 (pmO o b (fun k => x k 0) (fun k => y k 5)).1)) := by kernel_rfl
theorem pdm_0_6 : gCut Try.prog { gam := gamN o } 26 prM (pdI 0 6 x y b m) nG (pdK ++ [nF]) (prT [8, 10]) = some (.exit 2, pdJ 0 x y b m) := by kernel_rfl
theorem pdc_0 : gRun Try.prog { gam := gamN o } 26 pr10 (pdJ 0 x y b m) pdK (prT [10]) = some (.normal, { pdO 1 x y b m with lo := nG }) := by kernel_rfl
theorem pdo_0 (j : Int) : okClean nG (pdI 0 j x y b m) = true := by kernel_rfl
theorem pdp_0 : okClean nG (pdJ 0 x y b m) = true := by kernel_rfl
def pdU_1 (x y : Mx) (b : Bool) (m : Mx) : St := prS [(10, .val (.int .i64 1)), (11, .val (.bool true))] (pdH x y b m []) nF
theorem pda_1 : gRun Try.prog { gam := gamN o } 26 pr3 (pdO 1 x y b m) pdK (prT [10, 11]) = some (.normal, pdU_1 x y b m) := by kernel_rfl
theorem pdA_1 : gRun Try.prog { gam := gamN o } 26 pr3b (pdU_1 x y b m) pdK (prT [10]) = some (.normal, pdO 1 x y b m) := by kernel_rfl
theorem pdb_1 : gRun Try.prog { gam := gamN o } 26 pr4 (pdO 1 x y b m) (pdK ++ [nF]) (prT [8, 10]) = some (.normal, pdJ 1 x y b m) := by kernel_rfl
theorem pdB_1 : gRun Try.prog { gam := gamN o } 26 pr5 (pdJ 1 x y b m) (pdK ++ [nF]) (prT [8, 10, 13]) = some (.normal, pdI 1 0 x y b m) := by kernel_rfl
theorem pdm_1_0 : gCut Try.prog { gam := gamN o } 26 prM (pdI 1 0 x y b m) nG (pdK ++ [nF]) (prT [8, 10, 13]) = some (.normal, pdI 1 1 x y (pmO o b (fun k => x k 1) (fun k => y k 0)).2 (setM m 1 0 (pmO o b (fun k => x k 1) (fun k => y k 0)).1)) := by kernel_rfl
theorem pdm_1_1 : gCut Try.prog { gam := gamN o } 26 prM (pdI 1 1 x y b m) nG (pdK ++ [nF]) (prT [8, 10, 13]) = some (.normal, pdI 1 2 x y (pmO o b (fun k => x k 1) (fun k => y k 1)).2 (setM m 1 1 (pmO o b (fun k => x k 1) (fun k => y k 1)).1)) := by kernel_rfl
theorem pdm_1_2 : gCut Try.prog { gam := gamN o } 26 prM (pdI 1 2 x y b m) nG (pdK ++ [nF]) (prT [8, 10, 13]) = some (.normal, pdI 1 3 x y (pmO o b (fun k => x k 1) (fun k => y k 2)).2 (setM m 1 2 (pmO o b (fun k => x k 1) (fun k => y k 2)).1)) := by kernel_rfl
theorem pdm_1_3 : gCut Try.prog { gam := gamN o } 26 prM (pdI 1 3 x y b m) nG (pdK ++ [nF]) (prT [8, 10, 13]) = some (.normal, pdI 1 4 x y (pmO o b (fun k => x k 1) (fun k => y k 3)).2 (setM m 1 3 (pmO o b (fun k => x k 1) (fun k => y k 3)).1)) := by kernel_rfl
theorem pdm_1_4 : gCut Try.prog { gam := gamN o } 26 prM (pdI 1 4 x y b m) nG (pdK ++ [nF]) (prT [8, 10, 13]) = some (.normal, pdI 1 5 x y (pmO o b (fun k => x k 1) (fun k => y k 4)).2 (setM m 1 4 (pmO o b (fun k => x k 1) (fun k => y k 4)).1)) := by kernel_rfl
theorem pdm_1_5 : gCut Try.prog { gam := gamN o } 26 prM (pdI 1 5 x y b m) nG (pdK ++ [nF]) (prT [8, 10, 13]) = some (.normal, pdI 1 6 x y (pmO o b (fun k => x k 1) (fun k => y k 5)).2 (setM m 1 5 (pmO o b (fun k => x k 1) (fun k => y k 5)).1)) := by kernel_rfl
theorem pdm_1_6 : gCut Try.prog { gam := gamN o } 26 prM (pdI 1 6 x y b m) nG (pdK ++ [nF]) (prT [8, 10]) = some (.exit 2, pdJ 1 x y b m) := by kernel_rfl
theorem pdc_1 : gRun Try.prog { gam := gamN o } 26 pr10 (pdJ 1 x y b m) pdK (prT [10]) = some (.normal, { pdO 2 x y b m with lo := nG }) := by kernel_rfl
theorem pdo_1 (j : Int) : okClean nG (pdI 1 j x y b m) = true := by kernel_rfl
theorem pdp_1 : okClean nG (pdJ 1 x y b m) = true := by kernel_rfl
def pdU_2 (x y : Mx) (b : Bool) (m : Mx) : St := prS [(10, .val (.int .i64 2)), (11, .val (.bool true))] (pdH x y b m []) nF
theorem pda_2 : gRun Try.prog { gam := gamN o } 26 pr3 (pdO 2 x y b m) pdK (prT [10, 11]) = some (.normal, pdU_2 x y b m) := by kernel_rfl
theorem pdA_2 : gRun Try.prog { gam := gamN o } 26 pr3b (pdU_2 x y b m) pdK (prT [10]) = some (.normal, pdO 2 x y b m) := by kernel_rfl
theorem pdb_2 : gRun Try.prog { gam := gamN o } 26 pr4 (pdO 2 x y b m) (pdK ++ [nF]) (prT [8, 10]) = some (.normal, pdJ 2 x y b m) := by kernel_rfl
theorem pdB_2 : gRun Try.prog { gam := gamN o } 26 pr5 (pdJ 2 x y b m) (pdK ++ [nF]) (prT [8, 10, 13]) = some (.normal, pdI 2 0 x y b m) := by kernel_rfl
theorem pdm_2_0 : gCut Try.prog { gam := gamN o } 26 prM (pdI 2 0 x y b m) nG (pdK ++ [nF]) (prT [8, 10, 13]) = some (.normal, pdI 2 1 x y (pmO o b (fun k => x k 2) (fun k => y k 0)).2 (setM m 2 0 (pmO o b (fun k => x k 2) (fun k => y k 0)).1)) := by kernel_rfl
theorem pdm_2_1 : gCut Try.prog { gam := gamN o } 26 prM (pdI 2 1 x y b m) nG (pdK ++ [nF]) (prT [8, 10, 13]) = some (.normal, pdI 2 2 x y (pmO o b (fun k => x k 2) (fun k => y k 1)).2 (setM m 2 1 (pmO o b (fun k => x k 2) (fun k => y k 1)).1)) := by kernel_rfl
theorem pdm_2_2 : gCut Try.prog { gam := gamN o } 26 prM (pdI 2 2 x y b m) nG (pdK ++ [nF]) (prT [8, 10, 13]) = some (.normal, pdI 2 3 x y (pmO o b (fun k => x k 2) (fun k => y k 2)).2 (setM m 2 2 (pmO o b (fun k => x k 2) (fun k => y k 2)).1)) := by kernel_rfl
theorem pdm_2_3 : gCut Try.prog { gam := gamN o } 26 prM (pdI 2 3 x y b m) nG (pdK ++ [nF]) (prT [8, 10, 13]) = some (.normal, pdI 2 4 x y (pmO o b (fun k => x k 2) (fun k => y k 3)).2 (setM m 2 3 (pmO o b (fun k => x k 2) (fun k => y k 3)).1)) := by kernel_rfl
theorem pdm_2_4 : gCut Try.prog { gam := gamN o } 26 prM (pdI 2 4 x y b m) nG (pdK ++ [nF]) (prT [8, 10, 13]) = some (.normal, pdI 2 5 x y (pmO o b (fun k => x k 2) (fun k => y k 4)).2 (setM m 2 4 (pmO o b (fun k => x k 2) (fun k => y k 4)).1)) := by kernel_rfl
theorem pdm_2_5 : gCut Try.prog { gam := gamN o } 26 prM (pdI 2 5 x y b m) nG (pdK ++ [nF]) (prT [8, 10, 13]) = some (.normal, pdI 2 6 x y (pmO o b (fun k => x k 2) (fun k => y k 5)).2 (setM m 2 5 (pmO o b (fun k => x k 2) (fun k => y k 5)).1)) := by kernel_rfl
theorem pdm_2_6 : gCut Try.prog { gam := gamN o } 26 prM (pdI 2 6 x y b m) nG (pdK ++ [nF]) (prT [8, 10]) = some (.exit 2, pdJ 2 x y b m) := by kernel_rfl
theorem pdc_2 : gRun Try.prog { gam := gamN o } 26 pr10 (pdJ 2 x y b m) pdK (prT [10]) = some (.normal, { pdO 3 x y b m with lo := nG }) := by kernel_rfl
theorem pdo_2 (j : Int) : okClean nG (pdI 2 j x y b m) = true := by kernel_rfl
theorem pdp_2 : okClean nG (pdJ 2 x y b m) = true := by kernel_rfl
def pdU_3 (x y : Mx) (b : Bool) (m : Mx) : St := prS [(10, .val (.int .i64 3)), (11, .val (.bool true))] (pdH x y b m []) nF
theorem pda_3 : gRun Try.prog { gam := gamN o } 26 pr3 (pdO 3 x y b m) pdK (prT [10, 11]) = some (.normal, pdU_3 x y b m) := by kernel_rfl
theorem pdA_3 : gRun Try.prog { gam := gamN o } 26 pr3b (pdU_3 x y b m) pdK (prT [10]) = some (.normal, pdO 3 x y b m) := by kernel_rfl
theorem pdb_3 : gRun Try.prog { gam := gamN o } 26 pr4 (pdO 3 x y b m) (pdK ++ [nF]) (prT [8, 10]) = some (.normal, pdJ 3 x y b m) := by kernel_rfl
theorem pdB_3 : gRun Try.prog { gam := gamN o } 26 pr5 (pdJ 3 x y b m) (pdK ++ [nF]) (prT [8, 10, 13]) = some (.normal, pdI 3 0 x y b m) := by kernel_rfl
theorem pdm_3_0 : gCut Try.prog { gam := gamN o } 26 prM (pdI 3 0 x y b m) nG (pdK ++ [nF]) (prT [8, 10, 13]) = some (.normal, pdI 3 1 x y (pmO o b (fun k => x k 3) (fun k => y k 0)).2 (setM m 3 0 (pmO o b (fun k => x k 3) (fun k => y k 0)).1)) := by kernel_rfl
theorem pdm_3_1 : gCut Try.prog { gam := gamN o } 26 prM (pdI 3 1 x y b m) nG (pdK ++ [nF]) (prT [8, 10, 13]) = some (.normal, pdI 3 2 x y (pmO o b (fun k => x k 3) (fun k => y k 1)).2 (setM m 3 1 (pmO o b (fun k => x k 3) (fun k => y k 1)).1)) := by kernel_rfl
theorem pdm_3_2 : gCut Try.prog { gam := gamN o } 26 prM (pdI 3 2 x y b m) nG (pdK ++ [nF]) (prT [8, 10, 13]) = some (.normal, pdI 3 3 x y (pmO o b (fun k => x k 3) (fun k => y k 2)).2 (setM m 3 2 (pmO o b (fun k => x k 3) (fun k => y k 2)).1)) := by kernel_rfl
theorem pdm_3_3 : gCut Try.prog { gam := gamN o } 26 prM (pdI 3 3 x y b m) nG (pdK ++ [nF]) (prT [8, 10, 13]) = some (.normal, pdI 3 4 x y (pmO o b (fun k => x k 3) (fun k => y k 3)).2 (setM m 3 3 (pmO o b (fun k => x k 3) (fun k => y k 3)).1)) := by kernel_rfl
theorem pdm_3_4 : gCut Try.prog { gam := gamN o } 26 prM (pdI 3 4 x y b m) nG (pdK ++ [nF]) (prT [8, 10, 13]) = some (.normal, pdI 3 5 x y (pmO o b (fun k => x k 3) (fun k => y k 4)).2 (setM m 3 4 (pmO o b (fun k => x k 3) (fun k => y k 4)).1)) := by kernel_rfl
theorem pdm_3_5 : gCut Try.prog { gam := gamN o } 26 prM (pdI 3 5 x y b m) nG (pdK ++ [nF]) (prT [8, 10, 13]) = some (.normal, pdI 3 6 x y (pmO o b (fun k => x k 3) (fun k => y k 5)).2 (setM m 3 5 (pmO o b (fun k => x k 3) (fun k => y k 5)).1)) := by kernel_rfl
theorem pdm_3_6 : gCut Try.prog { gam := gamN o } 26 prM (pdI 3 6 x y b m) nG (pdK ++ [nF]) (prT [8, 10]) = some (.exit 2, pdJ 3 x y b m) := by kernel_rfl
theorem pdc_3 : gRun Try.prog { gam := gamN o } 26 pr10 (pdJ 3 x y b m) pdK (prT [10]) = some (.normal, { pdO 4 x y b m with lo := nG }) := by kernel_rfl
theorem pdo_3 (j : Int) : okClean nG (pdI 3 j x y b m) = true := by kernel_rfl
theorem pdp_3 : okClean nG (pdJ 3 x y b m) = true := by kernel_rfl
def pdU_4 (x y : Mx) (b : Bool) (m : Mx) : St := prS [(10, .val (.int .i64 4)), (11, .val (.bool true))] (pdH x y b m []) nF
theorem pda_4 : gRun Try.prog { gam := gamN o } 26 pr3 (pdO 4 x y b m) pdK (prT [10, 11]) = some (.normal, pdU_4 x y b m) := by kernel_rfl
theorem pdA_4 : gRun Try.prog { gam := gamN o } 26 pr3b (pdU_4 x y b m) pdK (prT [10]) = some (.normal, pdO 4 x y b m) := by kernel_rfl
theorem pdb_4 : gRun Try.prog { gam := gamN o } 26 pr4 (pdO 4 x y b m) (pdK ++ [nF]) (prT [8, 10]) = some (.normal, pdJ 4 x y b m) := by kernel_rfl
theorem pdB_4 : gRun Try.prog { gam := gamN o } 26 pr5 (pdJ 4 x y b m) (pdK ++ [nF]) (prT [8, 10, 13]) = some (.normal, pdI 4 0 x y b m) := by kernel_rfl
theorem pdm_4_0 : gCut Try.prog { gam := gamN o } 26 prM (pdI 4 0 x y b m) nG (pdK ++ [nF]) (prT [8, 10, 13]) = some (.normal, pdI 4 1 x y (pmO o b (fun k => x k 4) (fun k => y k 0)).2 (setM m 4 0 (pmO o b (fun k => x k 4) (fun k => y k 0)).1)) := by kernel_rfl
theorem pdm_4_1 : gCut Try.prog { gam := gamN o } 26 prM (pdI 4 1 x y b m) nG (pdK ++ [nF]) (prT [8, 10, 13]) = some (.normal, pdI 4 2 x y (pmO o b (fun k => x k 4) (fun k => y k 1)).2 (setM m 4 1 (pmO o b (fun k => x k 4) (fun k => y k 1)).1)) := by kernel_rfl
theorem pdm_4_2 : gCut Try.prog { gam := gamN o } 26 prM (pdI 4 2 x y b m) nG (pdK ++ [nF]) (prT [8, 10, 13]) = some (.normal, pdI 4 3 x y (pmO o b (fun k => x k 4) (fun k => y k 2)).2 (setM m 4 2 (pmO o b (fun k => x k 4) (fun k => y k 2)).1)) := by kernel_rfl
theorem pdm_4_3 : gCut Try.prog { gam := gamN o } 26 prM (pdI 4 3 x y b m) nG (pdK ++ [nF]) (prT [8, 10, 13]) = some (.normal, pdI 4 4 x y (pmO o b (fun k => x k 4) (fun k => y k 3)).2 (setM m 4 3 (pmO o b (fun k => x k 4) (fun k => y k 3)).1)) := by kernel_rfl
theorem pdm_4_4 : gCut Try.prog { gam := gamN o } 26 prM (pdI 4 4 x y b m) nG (pdK ++ [nF]) (prT [8, 10, 13]) = some (.normal, pdI 4 5 x y (pmO o b (fun k => x k 4) (fun k => y k 4)).2 (setM m 4 4 (pmO o b (fun k => x k 4) (fun k => y k 4)).1)) := by kernel_rfl
theorem pdm_4_5 : gCut Try.prog { gam := gamN o } 26 prM (pdI 4 5 x y b m) nG (pdK ++ [nF]) (prT [8, 10, 13]) = some (.normal, pdI 4 6 x y (pmO o b (fun k => x k 4) (fun k => y k 5)).2 (setM m 4 5 (pmO o b (fun k => x k 4) (fun k => y k 5)).1)) := by kernel_rfl
theorem pdm_4_6 : gCut Try.prog { gam := gamN o } 26 prM (pdI 4 6 x y b m) nG (pdK ++ [nF]) (prT [8, 10]) = some (.exit 2, pdJ 4 x y b m) := by kernel_rfl
theorem pdc_4 : gRun Try.prog { gam := gamN o } 26 pr10 (pdJ 4 x y b m) pdK (prT [10]) = some (.normal, { pdO 5 x y b m with lo := nG }) := by kernel_rfl
theorem pdo_4 (j : Int) : okClean nG (pdI 4 j x y b m) = true := by kernel_rfl
theorem pdp_4 : okClean nG (pdJ 4 x y b m) = true := by kernel_rfl
def pdU_5 (x y : Mx) (b : Bool) (m : Mx) : St := prS [(10, .val (.int .i64 5)), (11, .val (.bool true))] (pdH x y b m []) nF
theorem pda_5 : gRun Try.prog { gam := gamN o } 26 pr3 (pdO 5 x y b m) pdK (prT [10, 11]) = some (.normal, pdU_5 x y b m) := by kernel_rfl
theorem pdA_5 : gRun Try.prog { gam := gamN o } 26 pr3b (pdU_5 x y b m) pdK (prT [10]) = some (.normal, pdO 5 x y b m) := by kernel_rfl
theorem pdb_5 : gRun Try.prog { gam := gamN o } 26 pr4 (pdO 5 x y b m) (pdK ++ [nF]) (prT [8, 10]) = some (.normal, pdJ 5 x y b m) := by kernel_rfl
theorem pdB_5 : gRun Try.prog { gam := gamN o } 26 pr5 (pdJ 5 x y b m) (pdK ++ [nF]) (prT [8, 10, 13]) = some (.normal, pdI 5 0 x y b m) := by kernel_rfl
theorem pdm_5_0 : gCut Try.prog { gam := gamN o } 26 prM (pdI 5 0 x y b m) nG (pdK ++ [nF]) (prT [8, 10, 13]) = some (.normal, pdI 5 1 x y (pmO o b (fun k => x k 5) (fun k => y k 0)).2 (setM m 5 0 (pmO o b (fun k => x k 5) (fun k => y k 0)).1)) := by kernel_rfl
theorem pdm_5_1 : gCut Try.prog { gam := gamN o } 26 prM (pdI 5 1 x y b m) nG (pdK ++ [nF]) (prT [8, 10, 13]) = some (.normal, pdI 5 2 x y (pmO o b (fun k => x k 5) (fun k => y k 1)).2 (setM m 5 1 (pmO o b (fun k => x k 5) (fun k => y k 1)).1)) := by kernel_rfl
theorem pdm_5_2 : gCut Try.prog { gam := gamN o } 26 prM (pdI 5 2 x y b m) nG (pdK ++ [nF]) (prT [8, 10, 13]) = some (.normal, pdI 5 3 x y (pmO o b (fun k => x k 5) (fun k => y k 2)).2 (setM m 5 2 (pmO o b (fun k => x k 5) (fun k => y k 2)).1)) := by kernel_rfl
theorem pdm_5_3 : gCut Try.prog { gam := gamN o } 26 prM (pdI 5 3 x y b m) nG (pdK ++ [nF]) (prT [8, 10, 13]) = some (.normal, pdI 5 4 x y (pmO o b (fun k => x k 5) (fun k => y k 3)).2 (setM m 5 3 (pmO o b (fun k => x k 5) (fun k => y k 3)).1)) := by kernel_rfl
theorem pdm_5_4 : gCut Try.prog { gam := gamN o } 26 prM (pdI 5 4 x y b m) nG (pdK ++ [nF]) (prT [8, 10, 13]) = some (.normal, pdI 5 5 x y (pmO o b (fun k => x k 5) (fun k => y k 4)).2 (setM m 5 4 (pmO o b (fun k => x k 5) (fun k => y k 4)).1)) := by kernel_rfl
theorem pdm_5_5 : gCut Try.prog { gam := gamN o } 26 prM (pdI 5 5 x y b m) nG (pdK ++ [nF]) (prT [8, 10, 13]) = some (.normal, pdI 5 6 x y (pmO o b (fun k => x k 5) (fun k => y k 5)).2 (setM m 5 5 (pmO o b (fun k => x k 5) (fun k => y k 5)).1)) := by kernel_rfl
theorem pdm_5_6 : gCut Try.prog { gam := gamN o } 26 prM (pdI 5 6 x y b m) nG (pdK ++ [nF]) (prT [8, 10]) = some (.exit 2, pdJ 5 x y b m) := by kernel_rfl
theorem pdc_5 : gRun Try.prog { gam := gamN o } 26 pr10 (pdJ 5 x y b m) pdK (prT [10]) = some (.normal, { pdO 6 x y b m with lo := nG }) := by kernel_rfl
theorem pdo_5 (j : Int) : okClean nG (pdI 5 j x y b m) = true := by kernel_rfl
theorem pdp_5 : okClean nG (pdJ 5 x y b m) = true := by kernel_rfl
theorem pdW_0 : okClean nF ({ pdO 1 x y b m with lo := nG } : St) = true := by kernel_rfl
theorem pdW_1 : okClean nF ({ pdO 2 x y b m with lo := nG } : St) = true := by kernel_rfl
theorem pdW_2 : okClean nF ({ pdO 3 x y b m with lo := nG } : St) = true := by kernel_rfl
theorem pdW_3 : okClean nF ({ pdO 4 x y b m with lo := nG } : St) = true := by kernel_rfl
theorem pdW_4 : okClean nF ({ pdO 5 x y b m with lo := nG } : St) = true := by kernel_rfl
theorem pdW_5 : okClean nF ({ pdO 6 x y b m with lo := nG } : St) = true := by kernel_rfl
theorem pdx : gCut Try.prog { gam := gamN o } 26 prL (pdO 6 x y b m) nF pdK (prT []) = some (.exit 0, prS [] (pdH x y b m []) nF) := by kernel_rfl
theorem pdy : okClean nF (prS [] (pdH x y b m []) nF) = true := by kernel_rfl
theorem pde : gRun Try.prog { gam := gamN o } 26 prE (prS [] (pdH x y b m []) nF) [0, 1, 2, nD] [6] = some (.ret, pdF x y b m) := by kernel_rfl
theorem pdr : resA Try.prog (pdF x y b m) Try.f108.results.toList = some [.val (Cod.enc (M6.of m))] := by kernel_rfl
end
section
variable {o : Ops} (hG : GamOk Try.prog ({ gam := gamN o } : Env).gam) (x y m : Mx) (b : Bool)
include hG
omit hG in
theorem pdlo (i j : Int) : (pdI i j x y b m).lo = nG := rfl
omit hG in
theorem pdlo1 (i : Int) : (pdO i x y b m).lo = nF := rfl
theorem pdM_0_0 : RunsTo Try.prog 26 prM (pdI 0 0 x y b m) .normal (pdI 0 1 x y (pmO o b (fun k => x k 0) (fun k => y k 0)).2 (setM m 0 0 (pmO o b (fun k => x k 0) (fun k => y k 0)).1)) := gCut_runs hG (pdm_0_0 o x y m b) (pdlo ..) (pdo_0 ..) rfl
theorem pdM_0_1 : RunsTo Try.prog 26 prM (pdI 0 1 x y b m) .normal (pdI 0 2 x y (pmO o b (fun k => x k 0) (fun k => y k 1)).2 (setM m 0 1 (pmO o b (fun k => x k 0) (fun k => y k 1)).1)) := gCut_runs hG (pdm_0_1 o x y m b) (pdlo ..) (pdo_0 ..) rfl
theorem pdM_0_2 : RunsTo Try.prog 26 prM (pdI 0 2 x y b m) .normal (pdI 0 3 x y (pmO o b (fun k => x k 0) (fun k => y k 2)).2 (setM m 0 2 (pmO o b (fun k => x k 0) (fun k => y k 2)).1)) := gCut_runs hG (pdm_0_2 o x y m b) (pdlo ..) (pdo_0 ..) rfl
theorem pdM_0_3 : RunsTo Try.prog 26 prM (pdI 0 3 x y b m) .normal (pdI 0 4 x y (pmO o b (fun k => x k 0) (fun k => y k 3)).2 (setM m 0 3 (pmO o b (fun k => x k 0) (fun k => y k 3)).1)) := gCut_runs hG (pdm_0_3 o x y m b) (pdlo ..) (pdo_0 ..) rfl
theorem pdM_0_4 : RunsTo Try.prog 26 prM (pdI 0 4 x y b m) .normal (pdI 0 5 x y (pmO o b (fun k => x k 0) (fun k => y k 4)).2 (setM m 0 4 (pmO o b (fun k => x k 0) (fun k => y k 4)).1)) := gCut_runs hG (pdm_0_4 o x y m b) (pdlo ..) (pdo_0 ..) rfl
theorem pdM_0_5 : RunsTo Try.prog 26 prM (pdI 0 5 x y b m) .normal (pdI 0 6 x y (pmO o b (fun k => x k 0) (fun k => y k 5)).2 (setM m 0 5 (pmO o b (fun k => x k 0) (fun k => y k 5)).1)) := gCut_runs hG (pdm_0_5 o x y m b) (pdlo ..) (pdo_0 ..) rfl
theorem pdM_0_6 : RunsTo Try.prog 26 prM (pdI 0 6 x y b m) (.exit 2) (pdJ 0 x y b m) := gCut_runs hG (pdm_0_6 o x y m b) (pdlo ..) (pdp_0 ..) rfl
theorem pdN_0 : RunsTo Try.prog 26 (.block 2 (.loop prM)) (pdI 0 0 x y b m) .normal (pdJ 0 x y (prI_F o x y 0 (m, b)).2 (prI_F o x y 0 (m, b)).1) :=
  RunsTo.rounds (P := Try.prog) (N := 26) (c := prM) (id := 2) 6 (fun j z => pdI 0 j x y z.2 z.1) (fun z => pdJ 0 x y z.2 z.1) (prJ_F o x y 0)
    (fun j z hj => match j, hj with
      | 0, _ => pdM_0_0 hG x y z.1 z.2
      | 1, _ => pdM_0_1 hG x y z.1 z.2
      | 2, _ => pdM_0_2 hG x y z.1 z.2
      | 3, _ => pdM_0_3 hG x y z.1 z.2
      | 4, _ => pdM_0_4 hG x y z.1 z.2
      | 5, _ => pdM_0_5 hG x y z.1 z.2
      | n + 6, h => absurd h (by omega))
    (fun z => pdM_0_6 hG x y z.1 z.2) (m, b)
theorem pdR_0 : RunsTo Try.prog 26 prL (pdO 0 x y b m) .normal (pdO 1 x y (prI_F o x y 0 (m, b)).2 (prI_F o x y 0 (m, b)).1) := by
  rw [prL_is]
  have h := (gRun_runs hG (pdb_0 o x y m b)).seq ((gRun_runs hG (pdB_0 o x y m b)).seq (pdN_0 hG x y m b))
  generalize prI_F o x y 0 (m, b) = z at h ⊢
  exact ((gRun_runs hG (pda_0 o x y m b)).seq ((gRun_runs hG (pdA_0 o x y m b)).seq ((h.block (.inl rfl)).seq (gRun_runs hG (pdc_0 o x y z.1 z.2))))).freed (pdlo1 ..) (pdW_0 ..) rfl
theorem pdM_1_0 : RunsTo Try.prog 26 prM (pdI 1 0 x y b m) .normal (pdI 1 1 x y (pmO o b (fun k => x k 1) (fun k => y k 0)).2 (setM m 1 0 (pmO o b (fun k => x k 1) (fun k => y k 0)).1)) := gCut_runs hG (pdm_1_0 o x y m b) (pdlo ..) (pdo_1 ..) rfl
theorem pdM_1_1 : RunsTo Try.prog 26 prM (pdI 1 1 x y b m) .normal (pdI 1 2 x y (pmO o b (fun k => x k 1) (fun k => y k 1)).2 (setM m 1 1 (pmO o b (fun k => x k 1) (fun k => y k 1)).1)) := gCut_runs hG (pdm_1_1 o x y m b) (pdlo ..) (pdo_1 ..) rfl
theorem pdM_1_2 : RunsTo Try.prog 26 prM (pdI 1 2 x y b m) .normal (pdI 1 3 x y (pmO o b (fun k => x k 1) (fun k => y k 2)).2 (setM m 1 2 (pmO o b (fun k => x k 1) (fun k => y k 2)).1)) := gCut_runs hG (pdm_1_2 o x y m b) (pdlo ..) (pdo_1 ..) rfl
theorem pdM_1_3 : RunsTo Try.prog 26 prM (pdI 1 3 x y b m) .normal (pdI 1 4 x y (pmO o b (fun k => x k 1) (fun k => y k 3)).2 (setM m 1 3 (pmO o b (fun k => x k 1) (fun k => y k 3)).1)) := gCut_runs hG (pdm_1_3 o x y m b) (pdlo ..) (pdo_1 ..) rfl
theorem pdM_1_4 : RunsTo Try.prog 26 prM (pdI 1 4 x y b m) .normal (pdI 1 5 x y (pmO o b (fun k => x k 1) (fun k => y k 4)).2 (setM m 1 4 (pmO o b (fun k => x k 1) (fun k => y k 4)).1)) := gCut_runs hG (pdm_1_4 o x y m b) (pdlo ..) (pdo_1 ..) rfl
theorem pdM_1_5 : RunsTo Try.prog 26 prM (pdI 1 5 x y b m) .normal (pdI 1 6 x y (pmO o b (fun k => x k 1) (fun k => y k 5)).2 (setM m 1 5 (pmO o b (fun k => x k 1) (fun k => y k 5)).1)) := gCut_runs hG (pdm_1_5 o x y m b) (pdlo ..) (pdo_1 ..) rfl
theorem pdM_1_6 : RunsTo Try.prog 26 prM (pdI 1 6 x y b m) (.exit 2) (pdJ 1 x y b m) := gCut_runs hG (pdm_1_6 o x y m b) (pdlo ..) (pdp_1 ..) rfl
theorem pdN_1 : RunsTo Try.prog 26 (.block 2 (.loop prM)) (pdI 1 0 x y b m) .normal (pdJ 1 x y (prI_F o x y 1 (m, b)).2 (prI_F o x y 1 (m, b)).1) :=
  RunsTo.rounds (P := Try.prog) (N := 26) (c := prM) (id := 2) 6 (fun j z => pdI 1 j x y z.2 z.1) (fun z => pdJ 1 x y z.2 z.1) (prJ_F o x y 1)
    (fun j z hj => match j, hj with
      | 0, _ => pdM_1_0 hG x y z.1 z.2
      | 1, _ => pdM_1_1 hG x y z.1 z.2
      | 2, _ => pdM_1_2 hG x y z.1 z.2
      | 3, _ => pdM_1_3 hG x y z.1 z.2
      | 4, _ => pdM_1_4 hG x y z.1 z.2
      | 5, _ => pdM_1_5 hG x y z.1 z.2
      | n + 6, h => absurd h (by omega))
    (fun z => pdM_1_6 hG x y z.1 z.2) (m, b)
theorem pdR_1 : RunsTo Try.prog 26 prL (pdO 1 x y b m) .normal (pdO 2 x y (prI_F o x y 1 (m, b)).2 (prI_F o x y 1 (m, b)).1) := by
  rw [prL_is]
  have h := (gRun_runs hG (pdb_1 o x y m b)).seq ((gRun_runs hG (pdB_1 o x y m b)).seq (pdN_1 hG x y m b))
  generalize prI_F o x y 1 (m, b) = z at h ⊢
  exact ((gRun_runs hG (pda_1 o x y m b)).seq ((gRun_runs hG (pdA_1 o x y m b)).seq ((h.block (.inl rfl)).seq (gRun_runs hG (pdc_1 o x y z.1 z.2))))).freed (pdlo1 ..) (pdW_1 ..) rfl
theorem pdM_2_0 : RunsTo Try.prog 26 prM (pdI 2 0 x y b m) .normal (pdI 2 1 x y (pmO o b (fun k => x k 2) (fun k => y k 0)).2 (setM m 2 0 (pmO o b (fun k => x k 2) (fun k => y k 0)).1)) := gCut_runs hG (pdm_2_0 o x y m b) (pdlo ..) (pdo_2 ..) rfl
theorem pdM_2_1 : RunsTo Try.prog 26 prM (pdI 2 1 x y b m) .normal (pdI 2 2 x y (pmO o b (fun k => x k 2) (fun k => y k 1)).2 (setM m 2 1 (pmO o b (fun k => x k 2) (fun k => y k 1)).1)) := gCut_runs hG (pdm_2_1 o x y m b) (pdlo ..) (pdo_2 ..) rfl
theorem pdM_2_2 : RunsTo Try.prog 26 prM (pdI 2 2 x y b m) .normal (pdI 2 3 x y (pmO o b (fun k => x k 2) (fun k => y k 2)).2 (setM m 2 2 (pmO o b (fun k => x k 2) (fun k => y k 2)).1)) := gCut_runs hG (pdm_2_2 o x y m b) (pdlo ..) (pdo_2 ..) rfl
theorem pdM_2_3 : RunsTo Try.prog 26 prM (pdI 2 3 x y b m) .normal (pdI 2 4 x y (pmO o b (fun k => x k 2) (fun k => y k 3)).2 (setM m 2 3 (pmO o b (fun k => x k 2) (fun k => y k 3)).1)) := gCut_runs hG (pdm_2_3 o x y m b) (pdlo ..) (pdo_2 ..) rfl
theorem pdM_2_4 : RunsTo Try.prog 26 prM (pdI 2 4 x y b m) .normal (pdI 2 5 x y (pmO o b (fun k => x k 2) (fun k => y k 4)).2 (setM m 2 4 (pmO o b (fun k => x k 2) (fun k => y k 4)).1)) := gCut_runs hG (pdm_2_4 o x y m b) (pdlo ..) (pdo_2 ..) rfl
theorem pdM_2_5 : RunsTo Try.prog 26 prM (pdI 2 5 x y b m) .normal (pdI 2 6 x y (pmO o b (fun k => x k 2) (fun k => y k 5)).2 (setM m 2 5 (pmO o b (fun k => x k 2) (fun k => y k 5)).1)) := gCut_runs hG (pdm_2_5 o x y m b) (pdlo ..) (pdo_2 ..) rfl
theorem pdM_2_6 : RunsTo Try.prog 26 prM (pdI 2 6 x y b m) (.exit 2) (pdJ 2 x y b m) := gCut_runs hG (pdm_2_6 o x y m b) (pdlo ..) (pdp_2 ..) rfl
theorem pdN_2 : RunsTo Try.prog 26 (.block 2 (.loop prM)) (pdI 2 0 x y b m) .normal (pdJ 2 x y (prI_F o x y 2 (m, b)).2 (prI_F o x y 2 (m, b)).1) :=
  RunsTo.rounds (P := Try.prog) (N := 26) (c := prM) (id := 2) 6 (fun j z => pdI 2 j x y z.2 z.1) (fun z => pdJ 2 x y z.2 z.1) (prJ_F o x y 2)
    (fun j z hj => match j, hj with
      | 0, _ => pdM_2_0 hG x y z.1 z.2
      | 1, _ => pdM_2_1 hG x y z.1 z.2
      | 2, _ => pdM_2_2 hG x y z.1 z.2
      | 3, _ => pdM_2_3 hG x y z.1 z.2
      | 4, _ => pdM_2_4 hG x y z.1 z.2
      | 5, _ => pdM_2_5 hG x y z.1 z.2
      | n + 6, h => absurd h (by omega))
    (fun z => pdM_2_6 hG x y z.1 z.2) (m, b)
theorem pdR_2 : RunsTo Try.prog 26 prL (pdO 2 x y b m) .normal (pdO 3 x y (prI_F o x y 2 (m, b)).2 (prI_F o x y 2 (m, b)).1) := by
  rw [prL_is]
  have h := (gRun_runs hG (pdb_2 o x y m b)).seq ((gRun_runs hG (pdB_2 o x y m b)).seq (pdN_2 hG x y m b))
  generalize prI_F o x y 2 (m, b) = z at h ⊢
  exact ((gRun_runs hG (pda_2 o x y m b)).seq ((gRun_runs hG (pdA_2 o x y m b)).seq ((h.block (.inl rfl)).seq (gRun_runs hG (pdc_2 o x y z.1 z.2))))).freed (pdlo1 ..) (pdW_2 ..) rfl
theorem pdM_3_0 : RunsTo Try.prog 26 prM (pdI 3 0 x y b m) .normal (pdI 3 1 x y (pmO o b (fun k => x k 3) (fun k => y k 0)).2 (setM m 3 0 (pmO o b (fun k => x k 3) (fun k => y k 0)).1)) := gCut_runs hG (pdm_3_0 o x y m b) (pdlo ..) (pdo_3 ..) rfl
theorem pdM_3_1 : RunsTo Try.prog 26 prM (pdI 3 1 x y b m) .normal (pdI 3 2 x y (pmO o b (fun k => x k 3) (fun k => y k 1)).2 (setM m 3 1 (pmO o b (fun k => x k 3) (fun k => y k 1)).1)) := gCut_runs hG (pdm_3_1 o x y m b) (pdlo ..) (pdo_3 ..) rfl
theorem pdM_3_2 : RunsTo Try.prog 26 prM (pdI 3 2 x y b m) .normal (pdI 3 3 x y (pmO o b (fun k => x k 3) (fun k => y k 2)).2 (setM m 3 2 (pmO o b (fun k => x k 3) (fun k => y k 2)).1)) := gCut_runs hG (pdm_3_2 o x y m b) (pdlo ..) (pdo_3 ..) rfl
theorem pdM_3_3 : RunsTo Try.prog 26 prM (pdI 3 3 x y b m) .normal (pdI 3 4 x y (pmO o b (fun k => x k 3) (fun k => y k 3)).2 (setM m 3 3 (pmO o b (fun k => x k 3) (fun k => y k 3)).1)) := gCut_runs hG (pdm_3_3 o x y m b) (pdlo ..) (pdo_3 ..) rfl
theorem pdM_3_4 : RunsTo Try.prog 26 prM (pdI 3 4 x y b m) .normal (pdI 3 5 x y (pmO o b (fun k => x k 3) (fun k => y k 4)).2 (setM m 3 4 (pmO o b (fun k => x k 3) (fun k => y k 4)).1)) := gCut_runs hG (pdm_3_4 o x y m b) (pdlo ..) (pdo_3 ..) rfl
theorem pdM_3_5 : RunsTo Try.prog 26 prM (pdI 3 5 x y b m) .normal (pdI 3 6 x y (pmO o b (fun k => x k 3) (fun k => y k 5)).2 (setM m 3 5 (pmO o b (fun k => x k 3) (fun k => y k 5)).1)) := gCut_runs hG (pdm_3_5 o x y m b) (pdlo ..) (pdo_3 ..) rfl
theorem pdM_3_6 : RunsTo Try.prog 26 prM (pdI 3 6 x y b m) (.exit 2) (pdJ 3 x y b m) := gCut_runs hG (pdm_3_6 o x y m b) (pdlo ..) (pdp_3 ..) rfl
theorem pdN_3 : RunsTo Try.prog 26 (.block 2 (.loop prM)) (pdI 3 0 x y b m) .normal (pdJ 3 x y (prI_F o x y 3 (m, b)).2 (prI_F o x y 3 (m, b)).1) :=
  RunsTo.rounds (P := Try.prog) (N := 26) (c := prM) (id := 2) 6 (fun j z => pdI 3 j x y z.2 z.1) (fun z => pdJ 3 x y z.2 z.1) (prJ_F o x y 3)
    (fun j z hj => match j, hj with
      | 0, _ => pdM_3_0 hG x y z.1 z.2
      | 1, _ => pdM_3_1 hG x y z.1 z.2
      | 2, _ => pdM_3_2 hG x y z.1 z.2
      | 3, _ => pdM_3_3 hG x y z.1 z.2
      | 4, _ => pdM_3_4 hG x y z.1 z.2
      | 5, _ => pdM_3_5 hG x y z.1 z.2
      | n + 6, h => absurd h (by omega))
    (fun z => pdM_3_6 hG x y z.1 z.2) (m, b)
theorem pdR_3 : RunsTo Try.prog 26 prL (pdO 3 x y b m) .normal (pdO 4 x y (prI_F o x y 3 (m, b)).2 (prI_F o x y 3 (m, b)).1) := by
  rw [prL_is]
  have h := (gRun_runs hG (pdb_3 o x y m b)).seq ((gRun_runs hG (pdB_3 o x y m b)).seq (pdN_3 hG x y m b))
  generalize prI_F o x y 3 (m, b) = z at h ⊢
  exact ((gRun_runs hG (pda_3 o x y m b)).seq ((gRun_runs hG (pdA_3 o x y m b)).seq ((h.block (.inl rfl)).seq (gRun_runs hG (pdc_3 o x y z.1 z.2))))).freed (pdlo1 ..) (pdW_3 ..) rfl
theorem pdM_4_0 : RunsTo Try.prog 26 prM (pdI 4 0 x y b m) .normal (pdI 4 1 x y (pmO o b (fun k => x k 4) (fun k => y k 0)).2 (setM m 4 0 (pmO o b (fun k => x k 4) (fun k => y k 0)).1)) := gCut_runs hG (pdm_4_0 o x y m b) (pdlo ..) (pdo_4 ..) rfl
theorem pdM_4_1 : RunsTo Try.prog 26 prM (pdI 4 1 x y b m) .normal (pdI 4 2 x y (pmO o b (fun k => x k 4) (fun k => y k 1)).2 (setM m 4 1 (pmO o b (fun k => x k 4) (fun k => y k 1)).1)) := gCut_runs hG (pdm_4_1 o x y m b) (pdlo ..) (pdo_4 ..) rfl
theorem pdM_4_2 : RunsTo Try.prog 26 prM (pdI 4 2 x y b m) .normal (pdI 4 3 x y (pmO o b (fun k => x k 4) (fun k => y k 2)).2 (setM m 4 2 (pmO o b (fun k => x k 4) (fun k => y k 2)).1)) := gCut_runs hG (pdm_4_2 o x y m b) (pdlo ..) (pdo_4 ..) rfl
theorem pdM_4_3 : RunsTo Try.prog 26 prM (pdI 4 3 x y b m) .normal (pdI 4 4 x y (pmO o b (fun k => x k 4) (fun k => y k 3)).2 (setM m 4 3 (pmO o b (fun k => x k 4) (fun k => y k 3)).1)) := gCut_runs hG (pdm_4_3 o x y m b) (pdlo ..) (pdo_4 ..) rfl
theorem pdM_4_4 : RunsTo Try.prog 26 prM (pdI 4 4 x y b m) .normal (pdI 4 5 x y (pmO o b (fun k => x k 4) (fun k => y k 4)).2 (setM m 4 4 (pmO o b (fun k => x k 4) (fun k => y k 4)).1)) := gCut_runs hG (pdm_4_4 o x y m b) (pdlo ..) (pdo_4 ..) rfl
theorem pdM_4_5 : RunsTo Try.prog 26 prM (pdI 4 5 x y b m) .normal (pdI 4 6 x y (pmO o b (fun k => x k 4) (fun k => y k 5)).2 (setM m 4 5 (pmO o b (fun k => x k 4) (fun k => y k 5)).1)) := gCut_runs hG (pdm_4_5 o x y m b) (pdlo ..) (pdo_4 ..) rfl
theorem pdM_4_6 : RunsTo Try.prog 26 prM (pdI 4 6 x y b m) (.exit 2) (pdJ 4 x y b m) := gCut_runs hG (pdm_4_6 o x y m b) (pdlo ..) (pdp_4 ..) rfl
theorem pdN_4 : RunsTo Try.prog 26 (.block 2 (.loop prM)) (pdI 4 0 x y b m) .normal (pdJ 4 x y (prI_F o x y 4 (m, b)).2 (prI_F o x y 4 (m, b)).1) :=
  RunsTo.rounds (P := Try.prog) (N := 26) (c := prM) (id := 2) 6 (fun j z => pdI 4 j x y z.2 z.1) (fun z => pdJ 4 x y z.2 z.1) (prJ_F o x y 4)
    (fun j z hj => match j, hj with
      | 0, _ => pdM_4_0 hG x y z.1 z.2
      | 1, _ => pdM_4_1 hG x y z.1 z.2
      | 2, _ => pdM_4_2 hG x y z.1 z.2
      | 3, _ => pdM_4_3 hG x y z.1 z.2
      | 4, _ => pdM_4_4 hG x y z.1 z.2
      | 5, _ => pdM_4_5 hG x y z.1 z.2
      | n + 6, h => absurd h (by omega))
    (fun z => pdM_4_6 hG x y z.1 z.2) (m, b)
theorem pdR_4 : RunsTo Try.prog 26 prL (pdO 4 x y b m) .normal (pdO 5 x y (prI_F o x y 4 (m, b)).2 (prI_F o x y 4 (m, b)).1) := by
  rw [prL_is]
  have h := (gRun_runs hG (pdb_4 o x y m b)).seq ((gRun_runs hG (pdB_4 o x y m b)).seq (pdN_4 hG x y m b))
  generalize prI_F o x y 4 (m, b) = z at h ⊢
  exact ((gRun_runs hG (pda_4 o x y m b)).seq ((gRun_runs hG (pdA_4 o x y m b)).seq ((h.block (.inl rfl)).seq (gRun_runs hG (pdc_4 o x y z.1 z.2))))).freed (pdlo1 ..) (pdW_4 ..) rfl
theorem pdM_5_0 : RunsTo Try.prog 26 prM (pdI 5 0 x y b m) .normal (pdI 5 1 x y (pmO o b (fun k => x k 5) (fun k => y k 0)).2 (setM m 5 0 (pmO o b (fun k => x k 5) (fun k => y k 0)).1)) := gCut_runs hG (pdm_5_0 o x y m b) (pdlo ..) (pdo_5 ..) rfl
theorem pdM_5_1 : RunsTo Try.prog 26 prM (pdI 5 1 x y b m) .normal (pdI 5 2 x y (pmO o b (fun k => x k 5) (fun k => y k 1)).2 (setM m 5 1 (pmO o b (fun k => x k 5) (fun k => y k 1)).1)) := gCut_runs hG (pdm_5_1 o x y m b) (pdlo ..) (pdo_5 ..) rfl
theorem pdM_5_2 : RunsTo Try.prog 26 prM (pdI 5 2 x y b m) .normal (pdI 5 3 x y (pmO o b (fun k => x k 5) (fun k => y k 2)).2 (setM m 5 2 (pmO o b (fun k => x k 5) (fun k => y k 2)).1)) := gCut_runs hG (pdm_5_2 o x y m b) (pdlo ..) (pdo_5 ..) rfl
theorem pdM_5_3 : RunsTo Try.prog 26 prM (pdI 5 3 x y b m) .normal (pdI 5 4 x y (pmO o b (fun k => x k 5) (fun k => y k 3)).2 (setM m 5 3 (pmO o b (fun k => x k 5) (fun k => y k 3)).1)) := gCut_runs hG (pdm_5_3 o x y m b) (pdlo ..) (pdo_5 ..) rfl
theorem pdM_5_4 : RunsTo Try.prog 26 prM (pdI 5 4 x y b m) .normal (pdI 5 5 x y (pmO o b (fun k => x k 5) (fun k => y k 4)).2 (setM m 5 4 (pmO o b (fun k => x k 5) (fun k => y k 4)).1)) := gCut_runs hG (pdm_5_4 o x y m b) (pdlo ..) (pdo_5 ..) rfl
theorem pdM_5_5 : RunsTo Try.prog 26 prM (pdI 5 5 x y b m) .normal (pdI 5 6 x y (pmO o b (fun k => x k 5) (fun k => y k 5)).2 (setM m 5 5 (pmO o b (fun k => x k 5) (fun k => y k 5)).1)) := gCut_runs hG (pdm_5_5 o x y m b) (pdlo ..) (pdo_5 ..) rfl
theorem pdM_5_6 : RunsTo Try.prog 26 prM (pdI 5 6 x y b m) (.exit 2) (pdJ 5 x y b m) := gCut_runs hG (pdm_5_6 o x y m b) (pdlo ..) (pdp_5 ..) rfl
theorem pdN_5 : RunsTo Try.prog 26 (.block 2 (.loop prM)) (pdI 5 0 x y b m) .normal (pdJ 5 x y (prI_F o x y 5 (m, b)).2 (prI_F o x y 5 (m, b)).1) :=
  RunsTo.rounds (P := Try.prog) (N := 26) (c := prM) (id := 2) 6 (fun j z => pdI 5 j x y z.2 z.1) (fun z => pdJ 5 x y z.2 z.1) (prJ_F o x y 5)
    (fun j z hj => match j, hj with
      | 0, _ => pdM_5_0 hG x y z.1 z.2
      | 1, _ => pdM_5_1 hG x y z.1 z.2
      | 2, _ => pdM_5_2 hG x y z.1 z.2
      | 3, _ => pdM_5_3 hG x y z.1 z.2
      | 4, _ => pdM_5_4 hG x y z.1 z.2
      | 5, _ => pdM_5_5 hG x y z.1 z.2
      | n + 6, h => absurd h (by omega))
    (fun z => pdM_5_6 hG x y z.1 z.2) (m, b)
theorem pdR_5 : RunsTo Try.prog 26 prL (pdO 5 x y b m) .normal (pdO 6 x y (prI_F o x y 5 (m, b)).2 (prI_F o x y 5 (m, b)).1) := by
  rw [prL_is]
  have h := (gRun_runs hG (pdb_5 o x y m b)).seq ((gRun_runs hG (pdB_5 o x y m b)).seq (pdN_5 hG x y m b))
  generalize prI_F o x y 5 (m, b) = z at h ⊢
  exact ((gRun_runs hG (pda_5 o x y m b)).seq ((gRun_runs hG (pdA_5 o x y m b)).seq ((h.block (.inl rfl)).seq (gRun_runs hG (pdc_5 o x y z.1 z.2))))).freed (pdlo1 ..) (pdW_5 ..) rfl
theorem pdX : RunsTo Try.prog 26 prL (pdO 6 x y b m) (.exit 0) (prS [] (pdH x y b m []) nF) := gCut_runs hG (pdx o x y m b) (pdlo1 ..) (pdy ..) rfl
theorem pdL : RunsTo Try.prog 26 (.block 0 (.loop prL)) (pdO 0 x y b m) .normal (prS [] (pdH x y (iterF (prI_F o x y) 0 6 (m, b)).2 (iterF (prI_F o x y) 0 6 (m, b)).1 []) nF) :=
  RunsTo.rounds (P := Try.prog) (N := 26) (c := prL) (id := 0) 6 (fun i z => pdO i x y z.2 z.1) (fun z => prS [] (pdH x y z.2 z.1 []) nF) (prI_F o x y)
    (fun i z hi => match i, hi with
      | 0, _ => pdR_0 hG x y z.1 z.2
      | 1, _ => pdR_1 hG x y z.1 z.2
      | 2, _ => pdR_2 hG x y z.1 z.2
      | 3, _ => pdR_3 hG x y z.1 z.2
      | 4, _ => pdR_4 hG x y z.1 z.2
      | 5, _ => pdR_5 hG x y z.1 z.2
      | n + 6, h => absurd h (by omega))
    (fun z => pdX hG x y z.1 z.2) (m, b)
omit m in
theorem pd_runs : RunsTo Try.prog 26 prC (startS 26 [.ptr 0 0, .ptr 1 0, .ptr 2 0] [.row 25 [.val (.bool b)], .row 111 (cells13 x), .row 111 (cells13 y)]) .ret (pdF x y (prodO o b x y).2 (prodO o b x y).1) := by
  have hc : prC = .seq pr0 (.seq pr1 (.seq (.seq pr2 (.block 0 (.loop prL))) prE)) := by
    unfold prC
    rw [prC_is]
    rfl
  rw [hc]
  have hL := pdL hG x y mx0 b
  unfold prodO
  generalize iterF (prI_F o x y) 0 6 (mx0, b) = z at hL ⊢
  exact (gRun_runs hG (pd0 o x y b)).seq ((gRun_runs hG (pd1 o x y b)).seq (((gRun_runs hG (pd2 o x y b)).seq hL).seq (gRun_runs hG (pde o x y z.1 z.2))))
end
end Go.Ab
/- The filter's products as summaries; onto, halves, join, turned, settle. -/
namespace Go.Ab
open Go Go.Proofs
theorem allVals_map : ∀ {l : List AV} {vs : List Value}, allVals l = some vs → l = vs.map .val
  | [], vs, h => by simp only [allVals, Option.some.injEq] at h; subst h; rfl
  | a :: l, vs, h => by
    cases a with
    | val v =>
      simp only [allVals] at h
      split at h
      · rename_i ws hw
        cases h
        rw [allVals_map hw]
        rfl
      · cases h
    | _ => simp [allVals] at h
/-- A value that lies in a row of cells. -/
def rdCod (α : Type) [Cod α] (l : List AV) : Option α := match allVals l with
  | some vs => Cod.dec (.agg ⟨vs⟩)
  | none => none
theorem rdCod_law {α : Type} [Cod α] {l : List AV} {x : α} (h : rdCod α l = some x) : ∃ vs, l = vs.map .val ∧ Cod.enc x = .agg ⟨vs⟩ := by
  unfold rdCod at h
  split at h
  · rename_i vs hv
    exact ⟨vs, allVals_map hv, (Cod.law _ _ h).symm⟩
  · cases h
def X13.av (x : X13) : List AV := (cellsL x.rows).map .val
theorem rdX13 {l : List AV} {x : X13} (h : rdCod X13 l = some x) : l = x.av := by
  obtain ⟨vs, rfl, h2⟩ := rdCod_law h
  have : Value.agg ⟨cellsL x.rows⟩ = .agg ⟨vs⟩ := h2
  injection this with h3
  injection h3 with h4
  unfold X13.av
  rw [h4]
def X13.at (x : X13) : Mx
  | 0 => x.r0.at
  | 1 => x.r1.at
  | 2 => x.r2.at
  | 3 => x.r3.at
  | 4 => x.r4.at
  | 5 => x.r5.at
  | 6 => x.r6.at
  | 7 => x.r7.at
  | 8 => x.r8.at
  | 9 => x.r9.at
  | 10 => x.r10.at
  | 11 => x.r11.at
  | 12 => x.r12.at
  | _ => fun _ => 0
theorem at_av (x : X13) : cells13 x.at = x.av := by kernel_rfl
theorem of_av (X : Mx) : cells13 X = (x13of X).av := by kernel_rfl
def M6.av (m : M6) : List AV := (m6c m).map .val
theorem rdM6 {l : List AV} {m : M6} (h : rdCod M6 l = some m) : l = m.av := by
  obtain ⟨vs, rfl, h2⟩ := rdCod_law h
  have : Value.agg ⟨m6c m⟩ = .agg ⟨vs⟩ := h2
  injection this with h3
  injection h3 with h4
  unfold M6.av
  rw [h4]
theorem at_av6 (m : M6) : cells36 m.at = m.av := by kernel_rfl
theorem of_av6 (X : Mx) : cells36 X = (M6.of X).av := by kernel_rfl
structure XR where
  x : X13
  m : R6
abbrev CFun := Bool → X13 → XR × Bool
abbrev PFun := Bool → X13 → X13 → M6 × Bool
abbrev OFun := Bool → M6 → Int → Int → M6 × Bool
def centerV (o : Ops) : CFun := fun b x => (⟨x13of (centerO o b x.at).1.1, R6.of (centerO o b x.at).1.2⟩, (centerO o b x.at).2)
def prodV (o : Ops) : PFun := fun b x y => (M6.of (prodO o b x.at y.at).1, (prodO o b x.at y.at).2)
def ctrS (g : CFun) : Summary := fun args cs => match args, cs with
  | [.ptr 0 0, .ptr 1 0], [.row e l, .row e2 [.val (.bool b)]] => match Nat.beq e 111 && Nat.beq e2 25, rdCod X13 l with
    | true, some x => .ret (.val (Cod.enc (g b x).1.m)) [.row 111 (g b x).1.x.av, .row 25 [.val (.bool (g b x).2)]]
    | _, _ => .no
  | _, _ => .no
theorem ren13' (x : X13) (b : Bool) : renCs (upTo 2) [.row 111 x.av, .row 25 [.val (.bool b)]] = some [.row 111 x.av, .row 25 [.val (.bool b)]] := by kernel_rfl
theorem okCtr {o : Ops} (hG : GamOk Try.prog (gamN o)) : SumOk Try.prog 107 (ctrS (centerV o)) := by
  intro args cs r cs' h
  unfold ctrS at h
  split at h
  · split at h
    · rename_i e l e2 b _ _ x he hv
      simp only [STr.sel, Option.some.injEq, Prod.mk.injEq] at h
      obtain ⟨rfl, rfl⟩ := h
      simp only [Bool.and_eq_true] at he
      rw [Nat.eq_of_beq_eq_true he.1, Nat.eq_of_beq_eq_true he.2, rdX13 hv]
      have hrun := center_runs (o := o) hG x.at b
      rw [at_av] at hrun
      refine sum_runs f57_is (c := ctC) (by unfold ctC; rw [ctC_is]; rfl) ctN (by simp) (by simp) rfl rfl (ren13' x b) (.inr rfl) hrun (cqR ..) rfl rfl (fun b' c hb => ?_) rfl (ren13' ..)
      match b', hb with
      | 0, hb => cases hb; exact congrArg (fun l => some (Con.row 111 l)) (of_av _)
      | 1, hb => cases hb; rfl
      | n + 2, hb => simp at hb
    · simp [STr.sel] at h
  · simp [STr.sel] at h
def prdS (g : PFun) : Summary := fun args cs => match args, cs with
  | [.ptr 0 0, .ptr 1 0, .ptr 1 0], [.row e [.val (.bool b)], .row e1 l] => match Nat.beq e 25 && Nat.beq e1 111, rdCod X13 l with
    | true, some x => .ret (.val (Cod.enc (g b x x).1)) [.row 25 [.val (.bool (g b x x).2)], .row 111 x.av]
    | _, _ => .no
  | [.ptr 0 0, .ptr 1 0, .ptr 2 0], [.row e [.val (.bool b)], .row e1 l, .row e2 k] => match Nat.beq e 25 && (Nat.beq e1 111 && Nat.beq e2 111), rdCod X13 l, rdCod X13 k with
    | true, some x, some y => .ret (.val (Cod.enc (g b x y).1)) [.row 25 [.val (.bool (g b x y).2)], .row 111 x.av, .row 111 y.av]
    | _, _, _ => .no
  | _, _ => .no
theorem ren_s (x : X13) (b : Bool) : renCs (upTo 2) [.row 25 [.val (.bool b)], .row 111 x.av] = some [.row 25 [.val (.bool b)], .row 111 x.av] := by kernel_rfl
theorem ren_d (x y : X13) (b : Bool) : renCs (upTo 3) [.row 25 [.val (.bool b)], .row 111 x.av, .row 111 y.av] = some [.row 25 [.val (.bool b)], .row 111 x.av, .row 111 y.av] := by kernel_rfl
theorem okPrd {o : Ops} (hG : GamOk Try.prog (gamN o)) : SumOk Try.prog 108 (prdS (prodV o)) := by
  intro args cs r cs' h
  have hb : Try.f108.body = some prC := by unfold prC; rw [prC_is]; rfl
  unfold prdS at h
  split at h
  · split at h
    · rename_i e b e1 l _ _ x he hv
      simp only [STr.sel, Option.some.injEq, Prod.mk.injEq] at h
      obtain ⟨rfl, rfl⟩ := h
      simp only [Bool.and_eq_true] at he
      rw [Nat.eq_of_beq_eq_true he.1, Nat.eq_of_beq_eq_true he.2, rdX13 hv]
      have hrun := ps_runs (o := o) hG x.at b
      rw [at_av] at hrun
      refine sum_runs f58_is hb prN (by simp) (by simp) rfl rfl (ren_s x b) (.inr rfl) hrun (psr ..) rfl rfl (fun b' c hb => ?_) rfl (ren_s ..)
      match b', hb with
      | 0, hb => cases hb; rfl
      | 1, hb => cases hb; exact congrArg (fun l => some (Con.row 111 l)) (at_av x)
      | n + 2, hb => simp at hb
    · simp [STr.sel] at h
  · split at h
    · rename_i e b e1 l e2 k _ _ _ x y he hv hu
      simp only [STr.sel, Option.some.injEq, Prod.mk.injEq] at h
      obtain ⟨rfl, rfl⟩ := h
      simp only [Bool.and_eq_true] at he
      rw [Nat.eq_of_beq_eq_true he.1, Nat.eq_of_beq_eq_true he.2.1, Nat.eq_of_beq_eq_true he.2.2, rdX13 hv, rdX13 hu]
      have hrun := pd_runs (o := o) hG x.at y.at b
      rw [at_av, at_av] at hrun
      refine sum_runs f58_is hb prN (by simp) (by simp) rfl rfl (ren_d x y b) (.inr rfl) hrun (pdr ..) rfl rfl (fun b' c hb => ?_) rfl (ren_d ..)
      match b', hb with
      | 0, hb => cases hb; rfl
      | 1, hb => cases hb; exact congrArg (fun l => some (Con.row 111 l)) (at_av x)
      | 2, hb => cases hb; exact congrArg (fun l => some (Con.row 111 l)) (at_av y)
      | n + 3, hb => simp at hb
    · simp [STr.sel] at h
  · simp [STr.sel] at h
/-- Two numbers are added to a diagonal, three times each. -/
def ontoO (o : Ops) (b : Bool) (m : Mx) (p q : Int) : Mx × Bool :=
  let s0 := o.add b (m 0 0) p
  let s1 := o.add s0.2 (m 1 1) p
  let s2 := o.add s1.2 (m 2 2) p
  let s3 := o.add s2.2 (m 3 3) q
  let s4 := o.add s3.2 (m 4 4) q
  let s5 := o.add s4.2 (m 5 5) q
  (setM (setM (setM (setM (setM (setM m 0 0 s0.1) 1 1 s1.1) 2 2 s2.1) 3 3 s3.1) 4 4 s4.1) 5 5 s5.1, s5.2)
theorem onto59 (o : Ops) (b : Bool) (m : Mx) (p q : Int) : fnSum Try.prog { gam := gamN o } [] 20 109 [.ptr 0 0, .ptr 1 0, .val (.int .i64 p), .val (.int .i64 q)] [.row 25 [.val (.bool b)], .row 47 (cells36 m)] =
    some (.val (.tuple #[]), [.row 25 [.val (.bool (ontoO o b m p q).2)], .row 47 (cells36 (ontoO o b m p q).1)]) := by kernel_rfl
def ontoV (o : Ops) : OFun := fun b m p q => (M6.of (ontoO o b m.at p q).1, (ontoO o b m.at p q).2)
def ontS (g : OFun) : Summary := fun args cs => match args, cs with
  | [.ptr 0 0, .ptr 1 0, .val (.int .i64 p), .val (.int .i64 q)], [.row e [.val (.bool b)], .row e1 l] => match Nat.beq e 25 && Nat.beq e1 47, rdCod M6 l with
    | true, some m => .ret (.val (.tuple #[])) [.row 25 [.val (.bool (g b m p q).2)], .row 47 (g b m p q).1.av]
    | _, _ => .no
  | _, _ => .no
theorem okOnt {o : Ops} (hG : GamOk Try.prog (gamN o)) : SumOk Try.prog 109 (ontS (ontoV o)) := by
  refine sumOk_of (E := { gam := gamN o }) hG fun args cs r cs' h => ?_
  unfold ontS at h
  split at h
  · split at h
    · rename_i p q e b e1 l _ _ m he hv
      simp only [STr.sel, Option.some.injEq, Prod.mk.injEq] at h
      obtain ⟨rfl, rfl⟩ := h
      simp only [Bool.and_eq_true] at he
      refine ⟨by simp, 20, ?_⟩
      rw [Nat.eq_of_beq_eq_true he.1, Nat.eq_of_beq_eq_true he.2, rdM6 hv, ← at_av6]
      refine (onto59 o b m.at p q).trans ?_
      rw [of_av6]
      rfl
    · simp [STr.sel] at h
  · simp [STr.sel] at h
def halvesV (r : R6) : Two V3 V3 := ⟨⟨r.a, r.b, r.c⟩, ⟨r.d, r.e, r.f⟩⟩
def joinV (a b : V3) : R6 := ⟨a.x, a.y, a.z, b.x, b.y, b.z⟩
theorem halves53 (r : R6) : fnSum Try.prog { gam := [] } [] 20 104 [.val (Cod.enc r)] [] = some (.val (Cod.enc (halvesV r)), []) := by kernel_rfl
theorem join55 (a b : V3) : fnSum Try.prog { gam := [] } [] 20 106 [.val (Cod.enc a), .val (Cod.enc b)] [] = some (.val (Cod.enc (joinV a b)), []) := by kernel_rfl
theorem okHalves : SumOk Try.prog 104 (S0 fun (p : R6 × Unit) => halvesV p.1) := S0_ok (E := { gam := [] }) GamOk.nil 20 fun a => halves53 a.1
theorem okJoin : SumOk Try.prog 106 (S0 fun (p : V3 × V3 × Unit) => joinV p.1 p.2.1) := S0_ok (E := { gam := [] }) GamOk.nil 20 fun a => join55 a.1 a.2.1
abbrev QFun := Bool → V4 × V4 × Unit → V4 × Bool
abbrev RFun := Bool → V3 × Unit → V4 × Bool
abbrev TFun := Bool → V3 × V4 × Unit → V4 × Bool
abbrev UFun := Bool → V4 × Unit → V4 × Bool
def turnedO (mu : QFun) (fr : RFun) (b : Bool) (p : V3 × V4 × Unit) : V4 × Bool :=
  let r := fr b (p.1, ())
  mu r.2 (r.1, p.2.1, ())
theorem turned54 (mu : QFun) (fr : RFun) (b : Bool) (p : V3) (q : V4) : fnSum Try.prog { gam := [(41, S 25 mu), (55, S 25 fr)] } [] 20 105 [.ptr 0 0, .val (Cod.enc p), .val (Cod.enc q)] (row 25 b) =
    some (.val (Cod.enc (turnedO mu fr b (p, q, ())).1), row 25 (turnedO mu fr b (p, q, ())).2) := by kernel_rfl
def Gs.zero : Gs := ⟨V4.zero, V3.zero, M6.zero⟩
def settle0 (va : Bool → V3 × V3 × Unit → V3 × Bool) (un : UFun) (tu : TFun) (b : Bool) (q : V4) (bias : V3) (by_ : R6) (p : M6) : Gs × Bool :=
  let t := tu b ((halvesV by_).a, q, ())
  let u := un t.2 (t.1, ())
  let c := va u.2 (bias, (halvesV by_).b, ())
  (⟨u.1, c.1, p⟩, c.2)
def settleO (va : Bool → V3 × V3 × Unit → V3 × Bool) (un : UFun) (tu : TFun) (b : Bool) (p : V4 × V3 × R6 × M6 × Unit) : Two Gs Bool × Bool :=
  let r := settle0 va un tu b p.1 p.2.1 p.2.2.1 p.2.2.2.1
  (bif r.2 then ⟨Gs.zero, false⟩ else ⟨r.1, true⟩, r.2)
theorem settle66 (va : Bool → V3 × V3 × Unit → V3 × Bool) (un : UFun) (tu : TFun) (b : Bool) (q : V4) (bias : V3) (by_ : R6) (p : M6) :
    fnSum Try.prog { gam := [(90, S 25 va), (38, S 25 un), (105, S 25 tu), (104, S0 fun (p : R6 × Unit) => halvesV p.1)] } [] 20 110 [.ptr 0 0, .val (Cod.enc q), .val (Cod.enc bias), .val (Cod.enc by_), .val (Cod.enc p)] (row 25 b) =
      bif (settle0 va un tu b q bias by_ p).2 then some (.val (Cod.enc (Two.mk Gs.zero false)), row 25 (settle0 va un tu b q bias by_ p).2) else some (.val (Cod.enc (Two.mk (settle0 va un tu b q bias by_ p).1 true)), row 25 (settle0 va un tu b q bias by_ p).2) := by kernel_rfl
end Go.Ab
