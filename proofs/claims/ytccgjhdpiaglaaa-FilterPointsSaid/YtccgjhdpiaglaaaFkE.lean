/- A part of the proof of 'FilterPoints': lemmas, no statement of their own; no condition. -/
import Derived.Test.YtccgjhdpiaglaaaGFjD
/- Rows less a row.: equations. -/
namespace Go.Ab
open Go Go.Proofs
theorem rlS1_k (m : R6) (b : Bool) (X : Mx) : okClean (4096 + 3 * 2 ^ 180) (rlS1 m b X) = true := by kernel_rfl
theorem rlq0 (o : Ops) (x : X13) (m : R6) (b : Bool) : gRun Try.prog (eO o) 32 rlcL (startS 32 [.ptr 0 0, .val (Cod.enc x), .val (Cod.enc m)] (row 27 b)) [0, 4096, (4096 + 1 * 2 ^ 180), (4096 + 2 * 2 ^ 180)] [0, 4, 5, 6] = some (.normal, (rlS1 m b x.at)) := by kernel_rfl
theorem rlS2_k (m : R6) (b : Bool) (X : Mx) (k : Int) : okClean (4096 + 3 * 2 ^ 180) (rlS2 m b X k) = true := by kernel_rfl
theorem rlq1 (o : Ops) (m : R6) (b : Bool) (X : Mx) : gRun Try.prog (eO o) 32 rlcRLL (rlS1 m b X) [0, 4096, (4096 + 1 * 2 ^ 180), (4096 + 2 * 2 ^ 180)] [0, 4, 5, 6, 7] = some (.normal, (rlS2 m b X 0)) := by kernel_rfl
theorem rlq2_0 (o : Ops) (m : R6) (b : Bool) (X : Mx) : gCut Try.prog (eO o) 32 rlcRLRBB (rlS2 m b X 0) (4096 + 3 * 2 ^ 180) [0, 4096, (4096 + 1 * 2 ^ 180), (4096 + 2 * 2 ^ 180)] [0, 4, 5, 6, 7] = some (.normal, (rlS2 m ((rlF2 o m 0 (X, b)).2) ((rlF2 o m 0 (X, b)).1) 1)) := by kernel_rfl
theorem rlq2_1 (o : Ops) (m : R6) (b : Bool) (X : Mx) : gCut Try.prog (eO o) 32 rlcRLRBB (rlS2 m b X 1) (4096 + 3 * 2 ^ 180) [0, 4096, (4096 + 1 * 2 ^ 180), (4096 + 2 * 2 ^ 180)] [0, 4, 5, 6, 7] = some (.normal, (rlS2 m ((rlF2 o m 1 (X, b)).2) ((rlF2 o m 1 (X, b)).1) 2)) := by kernel_rfl
theorem rlq2_2 (o : Ops) (m : R6) (b : Bool) (X : Mx) : gCut Try.prog (eO o) 32 rlcRLRBB (rlS2 m b X 2) (4096 + 3 * 2 ^ 180) [0, 4096, (4096 + 1 * 2 ^ 180), (4096 + 2 * 2 ^ 180)] [0, 4, 5, 6, 7] = some (.normal, (rlS2 m ((rlF2 o m 2 (X, b)).2) ((rlF2 o m 2 (X, b)).1) 3)) := by kernel_rfl
theorem rlq2_3 (o : Ops) (m : R6) (b : Bool) (X : Mx) : gCut Try.prog (eO o) 32 rlcRLRBB (rlS2 m b X 3) (4096 + 3 * 2 ^ 180) [0, 4096, (4096 + 1 * 2 ^ 180), (4096 + 2 * 2 ^ 180)] [0, 4, 5, 6, 7] = some (.normal, (rlS2 m ((rlF2 o m 3 (X, b)).2) ((rlF2 o m 3 (X, b)).1) 4)) := by kernel_rfl
theorem rlq2_4 (o : Ops) (m : R6) (b : Bool) (X : Mx) : gCut Try.prog (eO o) 32 rlcRLRBB (rlS2 m b X 4) (4096 + 3 * 2 ^ 180) [0, 4096, (4096 + 1 * 2 ^ 180), (4096 + 2 * 2 ^ 180)] [0, 4, 5, 6, 7] = some (.normal, (rlS2 m ((rlF2 o m 4 (X, b)).2) ((rlF2 o m 4 (X, b)).1) 5)) := by kernel_rfl
theorem rlq2_5 (o : Ops) (m : R6) (b : Bool) (X : Mx) : gCut Try.prog (eO o) 32 rlcRLRBB (rlS2 m b X 5) (4096 + 3 * 2 ^ 180) [0, 4096, (4096 + 1 * 2 ^ 180), (4096 + 2 * 2 ^ 180)] [0, 4, 5, 6, 7] = some (.normal, (rlS2 m ((rlF2 o m 5 (X, b)).2) ((rlF2 o m 5 (X, b)).1) 6)) := by kernel_rfl
theorem rlq2_6 (o : Ops) (m : R6) (b : Bool) (X : Mx) : gCut Try.prog (eO o) 32 rlcRLRBB (rlS2 m b X 6) (4096 + 3 * 2 ^ 180) [0, 4096, (4096 + 1 * 2 ^ 180), (4096 + 2 * 2 ^ 180)] [0, 4, 5, 6, 7] = some (.normal, (rlS2 m ((rlF2 o m 6 (X, b)).2) ((rlF2 o m 6 (X, b)).1) 7)) := by kernel_rfl
theorem rlq2_7 (o : Ops) (m : R6) (b : Bool) (X : Mx) : gCut Try.prog (eO o) 32 rlcRLRBB (rlS2 m b X 7) (4096 + 3 * 2 ^ 180) [0, 4096, (4096 + 1 * 2 ^ 180), (4096 + 2 * 2 ^ 180)] [0, 4, 5, 6, 7] = some (.normal, (rlS2 m ((rlF2 o m 7 (X, b)).2) ((rlF2 o m 7 (X, b)).1) 8)) := by kernel_rfl
theorem rlq2_8 (o : Ops) (m : R6) (b : Bool) (X : Mx) : gCut Try.prog (eO o) 32 rlcRLRBB (rlS2 m b X 8) (4096 + 3 * 2 ^ 180) [0, 4096, (4096 + 1 * 2 ^ 180), (4096 + 2 * 2 ^ 180)] [0, 4, 5, 6, 7] = some (.normal, (rlS2 m ((rlF2 o m 8 (X, b)).2) ((rlF2 o m 8 (X, b)).1) 9)) := by kernel_rfl
theorem rlq2_9 (o : Ops) (m : R6) (b : Bool) (X : Mx) : gCut Try.prog (eO o) 32 rlcRLRBB (rlS2 m b X 9) (4096 + 3 * 2 ^ 180) [0, 4096, (4096 + 1 * 2 ^ 180), (4096 + 2 * 2 ^ 180)] [0, 4, 5, 6, 7] = some (.normal, (rlS2 m ((rlF2 o m 9 (X, b)).2) ((rlF2 o m 9 (X, b)).1) 10)) := by kernel_rfl
theorem rlq2_10 (o : Ops) (m : R6) (b : Bool) (X : Mx) : gCut Try.prog (eO o) 32 rlcRLRBB (rlS2 m b X 10) (4096 + 3 * 2 ^ 180) [0, 4096, (4096 + 1 * 2 ^ 180), (4096 + 2 * 2 ^ 180)] [0, 4, 5, 6, 7] = some (.normal, (rlS2 m ((rlF2 o m 10 (X, b)).2) ((rlF2 o m 10 (X, b)).1) 11)) := by kernel_rfl
theorem rlq2_11 (o : Ops) (m : R6) (b : Bool) (X : Mx) : gCut Try.prog (eO o) 32 rlcRLRBB (rlS2 m b X 11) (4096 + 3 * 2 ^ 180) [0, 4096, (4096 + 1 * 2 ^ 180), (4096 + 2 * 2 ^ 180)] [0, 4, 5, 6, 7] = some (.normal, (rlS2 m ((rlF2 o m 11 (X, b)).2) ((rlF2 o m 11 (X, b)).1) 12)) := by kernel_rfl
theorem rlq2_12 (o : Ops) (m : R6) (b : Bool) (X : Mx) : gCut Try.prog (eO o) 32 rlcRLRBB (rlS2 m b X 12) (4096 + 3 * 2 ^ 180) [0, 4096, (4096 + 1 * 2 ^ 180), (4096 + 2 * 2 ^ 180)] [0, 4, 5, 6, 7] = some (.normal, (rlS2 m ((rlF2 o m 12 (X, b)).2) ((rlF2 o m 12 (X, b)).1) 13)) := by kernel_rfl
theorem rlS3_k (m : R6) (b : Bool) (X : Mx) : okClean (4096 + 3 * 2 ^ 180) (rlS3 m b X) = true := by kernel_rfl
theorem rlq2_x (o : Ops) (m : R6) (b : Bool) (X : Mx) : gCut Try.prog (eO o) 32 rlcRLRBB (rlS2 m b X 13) (4096 + 3 * 2 ^ 180) [0, 4096, (4096 + 1 * 2 ^ 180), (4096 + 2 * 2 ^ 180)] [0, 4, 5, 6] = some (.exit 0, (rlS3 m b X)) := by kernel_rfl
theorem rlS4_k (b : Bool) (r : X13) : okClean (4096 + 3 * 2 ^ 180) (rlS4 b r) = true := by kernel_rfl
theorem rlq3 (o : Ops) (m : R6) (b : Bool) (X : Mx) : gRun Try.prog (eO o) 32 rlcRR (rlS3 m b X) [0, (4096 + 2 * 2 ^ 180)] [6] = some (.ret, (rlS4 b (x13of X))) := by kernel_rfl
end Go.Ab
