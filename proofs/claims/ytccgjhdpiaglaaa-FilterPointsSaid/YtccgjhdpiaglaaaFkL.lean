/- A part of the proof of 'FilterPoints': lemmas, no statement of their own; no condition. -/
import Derived.Test.YtccgjhdpiaglaaaFkH
import Derived.Test.YtccgjhdpiaglaaaGFkI
import Derived.Test.YtccgjhdpiaglaaaGBeA
/- What a guess is behind a move, by the document. -/
namespace Go.Ab
open Go Go.Proofs
section
variable {F : ROps} (hG : GamOk Try.prog (eR F).gam)
include hG
theorem rvq0_r (g : Gs) (rate : V3) (ms : Int) (b : Bool) : RunsTo Try.prog 206 rvcL (startS 206 [.ptr 0 0, .val (Cod.enc g), .val (Cod.enc rate), .val (Cod.enc ms)] (row 27 b)) .normal (rvS1 g rate ms b) := gRun_runs hG (rvq0 (F := F) (g := g) (rate := rate) (ms := ms) (b := b))
theorem rvq1_r (g : Gs) (rate : V3) (ms : Int) (b : Bool) : RunsTo Try.prog 206 rvcRL (rvS1 g rate ms b) .normal (rvS2 g rate ms (moveB ms b)) := by
  refine gRun_runs hG ((rvq1 (F := F) (g := g) (rate := rate) (ms := ms) (b := b)).trans ?_)
  unfold moveB
  cases decide (ms < 10) <;> cases decide (ms > 10000) <;> rfl
theorem rvq2_r (g : Gs) (rate : V3) (ms : Int) (b : Bool) : RunsTo Try.prog 206 rvcRRL (rvS2 g rate ms b) .normal (rvS3 g rate ms ((F.pt b (g, ())).2) ((F.pt b (g, ())).1)) := gRun_runs hG (rvq2 (F := F) (g := g) (rate := rate) (ms := ms) (b := b))
theorem rvq3_r (g : Gs) (rate : V3) (ms : Int) (b : Bool) (x : X13) : RunsTo Try.prog 206 rvcRRRL (rvS3 g rate ms b x) .normal (rvS4 g rate ms b x mx0) := gRun_runs hG (rvq3 (F := F) (g := g) (rate := rate) (ms := ms) (b := b) (x := x))
theorem rvq4_r (g : Gs) (rate : V3) (ms : Int) (b : Bool) (x : X13) (T : Mx) : RunsTo Try.prog 206 rvcRRRRLL (rvS4 g rate ms b x T) .normal (rvS5 g rate ms b x T 0) := gRun_runs hG (rvq4 (F := F) (g := g) (rate := rate) (ms := ms) (b := b) (x := x) (T := T))
theorem rvq5_0r (g : Gs) (rate : V3) (ms : Int) (b : Bool) (x : X13) (T : Mx) : RunsTo Try.prog 206 rvcRRRRLRBB (rvS5 g rate ms b x T 0) .normal (rvS5 g rate ms ((rvF5 F g rate ms x 0 (T, b)).2) x ((rvF5 F g rate ms x 0 (T, b)).1) 1) := gCut_runs hG (rvq5_0 (F := F) (g := g) (rate := rate) (ms := ms) (b := b) (x := x) (T := T)) rfl (rvS5_k ..) rfl
theorem rvq5_1r (g : Gs) (rate : V3) (ms : Int) (b : Bool) (x : X13) (T : Mx) : RunsTo Try.prog 206 rvcRRRRLRBB (rvS5 g rate ms b x T 1) .normal (rvS5 g rate ms ((rvF5 F g rate ms x 1 (T, b)).2) x ((rvF5 F g rate ms x 1 (T, b)).1) 2) := gCut_runs hG (rvq5_1 (F := F) (g := g) (rate := rate) (ms := ms) (b := b) (x := x) (T := T)) rfl (rvS5_k ..) rfl
theorem rvq5_2r (g : Gs) (rate : V3) (ms : Int) (b : Bool) (x : X13) (T : Mx) : RunsTo Try.prog 206 rvcRRRRLRBB (rvS5 g rate ms b x T 2) .normal (rvS5 g rate ms ((rvF5 F g rate ms x 2 (T, b)).2) x ((rvF5 F g rate ms x 2 (T, b)).1) 3) := gCut_runs hG (rvq5_2 (F := F) (g := g) (rate := rate) (ms := ms) (b := b) (x := x) (T := T)) rfl (rvS5_k ..) rfl
theorem rvq5_3r (g : Gs) (rate : V3) (ms : Int) (b : Bool) (x : X13) (T : Mx) : RunsTo Try.prog 206 rvcRRRRLRBB (rvS5 g rate ms b x T 3) .normal (rvS5 g rate ms ((rvF5 F g rate ms x 3 (T, b)).2) x ((rvF5 F g rate ms x 3 (T, b)).1) 4) := gCut_runs hG (rvq5_3 (F := F) (g := g) (rate := rate) (ms := ms) (b := b) (x := x) (T := T)) rfl (rvS5_k ..) rfl
theorem rvq5_4r (g : Gs) (rate : V3) (ms : Int) (b : Bool) (x : X13) (T : Mx) : RunsTo Try.prog 206 rvcRRRRLRBB (rvS5 g rate ms b x T 4) .normal (rvS5 g rate ms ((rvF5 F g rate ms x 4 (T, b)).2) x ((rvF5 F g rate ms x 4 (T, b)).1) 5) := gCut_runs hG (rvq5_4 (F := F) (g := g) (rate := rate) (ms := ms) (b := b) (x := x) (T := T)) rfl (rvS5_k ..) rfl
theorem rvq5_5r (g : Gs) (rate : V3) (ms : Int) (b : Bool) (x : X13) (T : Mx) : RunsTo Try.prog 206 rvcRRRRLRBB (rvS5 g rate ms b x T 5) .normal (rvS5 g rate ms ((rvF5 F g rate ms x 5 (T, b)).2) x ((rvF5 F g rate ms x 5 (T, b)).1) 6) := gCut_runs hG (rvq5_5 (F := F) (g := g) (rate := rate) (ms := ms) (b := b) (x := x) (T := T)) rfl (rvS5_k ..) rfl
theorem rvq5_6r (g : Gs) (rate : V3) (ms : Int) (b : Bool) (x : X13) (T : Mx) : RunsTo Try.prog 206 rvcRRRRLRBB (rvS5 g rate ms b x T 6) .normal (rvS5 g rate ms ((rvF5 F g rate ms x 6 (T, b)).2) x ((rvF5 F g rate ms x 6 (T, b)).1) 7) := gCut_runs hG (rvq5_6 (F := F) (g := g) (rate := rate) (ms := ms) (b := b) (x := x) (T := T)) rfl (rvS5_k ..) rfl
theorem rvq5_7r (g : Gs) (rate : V3) (ms : Int) (b : Bool) (x : X13) (T : Mx) : RunsTo Try.prog 206 rvcRRRRLRBB (rvS5 g rate ms b x T 7) .normal (rvS5 g rate ms ((rvF5 F g rate ms x 7 (T, b)).2) x ((rvF5 F g rate ms x 7 (T, b)).1) 8) := gCut_runs hG (rvq5_7 (F := F) (g := g) (rate := rate) (ms := ms) (b := b) (x := x) (T := T)) rfl (rvS5_k ..) rfl
theorem rvq5_8r (g : Gs) (rate : V3) (ms : Int) (b : Bool) (x : X13) (T : Mx) : RunsTo Try.prog 206 rvcRRRRLRBB (rvS5 g rate ms b x T 8) .normal (rvS5 g rate ms ((rvF5 F g rate ms x 8 (T, b)).2) x ((rvF5 F g rate ms x 8 (T, b)).1) 9) := gCut_runs hG (rvq5_8 (F := F) (g := g) (rate := rate) (ms := ms) (b := b) (x := x) (T := T)) rfl (rvS5_k ..) rfl
theorem rvq5_9r (g : Gs) (rate : V3) (ms : Int) (b : Bool) (x : X13) (T : Mx) : RunsTo Try.prog 206 rvcRRRRLRBB (rvS5 g rate ms b x T 9) .normal (rvS5 g rate ms ((rvF5 F g rate ms x 9 (T, b)).2) x ((rvF5 F g rate ms x 9 (T, b)).1) 10) := gCut_runs hG (rvq5_9 (F := F) (g := g) (rate := rate) (ms := ms) (b := b) (x := x) (T := T)) rfl (rvS5_k ..) rfl
theorem rvq5_10r (g : Gs) (rate : V3) (ms : Int) (b : Bool) (x : X13) (T : Mx) : RunsTo Try.prog 206 rvcRRRRLRBB (rvS5 g rate ms b x T 10) .normal (rvS5 g rate ms ((rvF5 F g rate ms x 10 (T, b)).2) x ((rvF5 F g rate ms x 10 (T, b)).1) 11) := gCut_runs hG (rvq5_10 (F := F) (g := g) (rate := rate) (ms := ms) (b := b) (x := x) (T := T)) rfl (rvS5_k ..) rfl
theorem rvq5_11r (g : Gs) (rate : V3) (ms : Int) (b : Bool) (x : X13) (T : Mx) : RunsTo Try.prog 206 rvcRRRRLRBB (rvS5 g rate ms b x T 11) .normal (rvS5 g rate ms ((rvF5 F g rate ms x 11 (T, b)).2) x ((rvF5 F g rate ms x 11 (T, b)).1) 12) := gCut_runs hG (rvq5_11 (F := F) (g := g) (rate := rate) (ms := ms) (b := b) (x := x) (T := T)) rfl (rvS5_k ..) rfl
theorem rvq5_12r (g : Gs) (rate : V3) (ms : Int) (b : Bool) (x : X13) (T : Mx) : RunsTo Try.prog 206 rvcRRRRLRBB (rvS5 g rate ms b x T 12) .normal (rvS5 g rate ms ((rvF5 F g rate ms x 12 (T, b)).2) x ((rvF5 F g rate ms x 12 (T, b)).1) 13) := gCut_runs hG (rvq5_12 (F := F) (g := g) (rate := rate) (ms := ms) (b := b) (x := x) (T := T)) rfl (rvS5_k ..) rfl
theorem rvq5_xr (g : Gs) (rate : V3) (ms : Int) (b : Bool) (x : X13) (T : Mx) : RunsTo Try.prog 206 rvcRRRRLRBB (rvS5 g rate ms b x T 13) (.exit 0) (rvS6 g rate ms b x T) := gCut_runs hG (rvq5_x (F := F) (g := g) (rate := rate) (ms := ms) (b := b) (x := x) (T := T)) rfl (rvS6_k ..) rfl
theorem rvq5_l (g : Gs) (rate : V3) (ms : Int) (x : X13) (z0 : Mx × Bool) : RunsTo Try.prog 206 (.block 0 (.loop rvcRRRRLRBB)) (rvS5 g rate ms z0.2 x z0.1 0) .normal (rvS6 g rate ms ((iterF (rvF5 F g rate ms x) 0 13 z0).2) x ((iterF (rvF5 F g rate ms x) 0 13 z0).1)) :=
  RunsTo.rounds (P := Try.prog) (N := 206) (c := rvcRRRRLRBB) (id := 0) 13 (fun i z => (rvS5 g rate ms z.2 x z.1 (i : Nat))) (fun z => (rvS6 g rate ms z.2 x z.1)) (rvF5 F g rate ms x)
    (fun i z => below13 (p := fun i => RunsTo Try.prog 206 rvcRRRRLRBB (rvS5 g rate ms z.2 x z.1 (i : Nat)) .normal (rvS5 g rate ms ((rvF5 F g rate ms x i z).2) x ((rvF5 F g rate ms x i z).1) (i + 1 : Nat)))
      (rvq5_0r hG (g := g) (rate := rate) (ms := ms) (b := z.2) (x := x) (T := z.1))
      (rvq5_1r hG (g := g) (rate := rate) (ms := ms) (b := z.2) (x := x) (T := z.1))
      (rvq5_2r hG (g := g) (rate := rate) (ms := ms) (b := z.2) (x := x) (T := z.1))
      (rvq5_3r hG (g := g) (rate := rate) (ms := ms) (b := z.2) (x := x) (T := z.1))
      (rvq5_4r hG (g := g) (rate := rate) (ms := ms) (b := z.2) (x := x) (T := z.1))
      (rvq5_5r hG (g := g) (rate := rate) (ms := ms) (b := z.2) (x := x) (T := z.1))
      (rvq5_6r hG (g := g) (rate := rate) (ms := ms) (b := z.2) (x := x) (T := z.1))
      (rvq5_7r hG (g := g) (rate := rate) (ms := ms) (b := z.2) (x := x) (T := z.1))
      (rvq5_8r hG (g := g) (rate := rate) (ms := ms) (b := z.2) (x := x) (T := z.1))
      (rvq5_9r hG (g := g) (rate := rate) (ms := ms) (b := z.2) (x := x) (T := z.1))
      (rvq5_10r hG (g := g) (rate := rate) (ms := ms) (b := z.2) (x := x) (T := z.1))
      (rvq5_11r hG (g := g) (rate := rate) (ms := ms) (b := z.2) (x := x) (T := z.1))
      (rvq5_12r hG (g := g) (rate := rate) (ms := ms) (b := z.2) (x := x) (T := z.1))
      i)
    (fun z => rvq5_xr hG (g := g) (rate := rate) (ms := ms) (b := z.2) (x := x) (T := z.1)) z0
theorem rvq6_r (g : Gs) (rate : V3) (ms : Int) (b : Bool) (x : X13) (T : Mx) : RunsTo Try.prog 206 rvcRRRRRL (rvS6 g rate ms b x T) .normal (rvS7 g ms ((F.un b (v4of (T 0), ())).2) x T ((F.un b (v4of (T 0), ())).1)) := gRun_runs hG (rvq6 (F := F) (g := g) (rate := rate) (ms := ms) (b := b) (x := x) (T := T))
theorem rvq7_r (g : Gs) (ms : Int) (b : Bool) (x : X13) (T : Mx) (mid : V4) : RunsTo Try.prog 206 rvcRRRRRRLL (rvS7 g ms b x T mid) .normal (rvS8 g ms b T 0 mid x.at) := gRun_runs hG (rvq7 (F := F) (g := g) (ms := ms) (b := b) (x := x) (T := T) (mid := mid))
theorem rvq8_0r (g : Gs) (ms : Int) (b : Bool) (T : Mx) (mid : V4) (X : Mx) : RunsTo Try.prog 206 rvcRRRRRRLRBB (rvS8 g ms b T 0 mid X) .normal (rvS8 g ms ((rvF8 F T mid 0 (X, b)).2) T 1 mid ((rvF8 F T mid 0 (X, b)).1)) := gCut_runs hG (rvq8_0 (F := F) (g := g) (ms := ms) (b := b) (T := T) (mid := mid) (X := X)) rfl (rvS8_k ..) rfl
theorem rvq8_1r (g : Gs) (ms : Int) (b : Bool) (T : Mx) (mid : V4) (X : Mx) : RunsTo Try.prog 206 rvcRRRRRRLRBB (rvS8 g ms b T 1 mid X) .normal (rvS8 g ms ((rvF8 F T mid 1 (X, b)).2) T 2 mid ((rvF8 F T mid 1 (X, b)).1)) := gCut_runs hG (rvq8_1 (F := F) (g := g) (ms := ms) (b := b) (T := T) (mid := mid) (X := X)) rfl (rvS8_k ..) rfl
theorem rvq8_2r (g : Gs) (ms : Int) (b : Bool) (T : Mx) (mid : V4) (X : Mx) : RunsTo Try.prog 206 rvcRRRRRRLRBB (rvS8 g ms b T 2 mid X) .normal (rvS8 g ms ((rvF8 F T mid 2 (X, b)).2) T 3 mid ((rvF8 F T mid 2 (X, b)).1)) := gCut_runs hG (rvq8_2 (F := F) (g := g) (ms := ms) (b := b) (T := T) (mid := mid) (X := X)) rfl (rvS8_k ..) rfl
theorem rvq8_3r (g : Gs) (ms : Int) (b : Bool) (T : Mx) (mid : V4) (X : Mx) : RunsTo Try.prog 206 rvcRRRRRRLRBB (rvS8 g ms b T 3 mid X) .normal (rvS8 g ms ((rvF8 F T mid 3 (X, b)).2) T 4 mid ((rvF8 F T mid 3 (X, b)).1)) := gCut_runs hG (rvq8_3 (F := F) (g := g) (ms := ms) (b := b) (T := T) (mid := mid) (X := X)) rfl (rvS8_k ..) rfl
theorem rvq8_4r (g : Gs) (ms : Int) (b : Bool) (T : Mx) (mid : V4) (X : Mx) : RunsTo Try.prog 206 rvcRRRRRRLRBB (rvS8 g ms b T 4 mid X) .normal (rvS8 g ms ((rvF8 F T mid 4 (X, b)).2) T 5 mid ((rvF8 F T mid 4 (X, b)).1)) := gCut_runs hG (rvq8_4 (F := F) (g := g) (ms := ms) (b := b) (T := T) (mid := mid) (X := X)) rfl (rvS8_k ..) rfl
theorem rvq8_5r (g : Gs) (ms : Int) (b : Bool) (T : Mx) (mid : V4) (X : Mx) : RunsTo Try.prog 206 rvcRRRRRRLRBB (rvS8 g ms b T 5 mid X) .normal (rvS8 g ms ((rvF8 F T mid 5 (X, b)).2) T 6 mid ((rvF8 F T mid 5 (X, b)).1)) := gCut_runs hG (rvq8_5 (F := F) (g := g) (ms := ms) (b := b) (T := T) (mid := mid) (X := X)) rfl (rvS8_k ..) rfl
theorem rvq8_6r (g : Gs) (ms : Int) (b : Bool) (T : Mx) (mid : V4) (X : Mx) : RunsTo Try.prog 206 rvcRRRRRRLRBB (rvS8 g ms b T 6 mid X) .normal (rvS8 g ms ((rvF8 F T mid 6 (X, b)).2) T 7 mid ((rvF8 F T mid 6 (X, b)).1)) := gCut_runs hG (rvq8_6 (F := F) (g := g) (ms := ms) (b := b) (T := T) (mid := mid) (X := X)) rfl (rvS8_k ..) rfl
theorem rvq8_7r (g : Gs) (ms : Int) (b : Bool) (T : Mx) (mid : V4) (X : Mx) : RunsTo Try.prog 206 rvcRRRRRRLRBB (rvS8 g ms b T 7 mid X) .normal (rvS8 g ms ((rvF8 F T mid 7 (X, b)).2) T 8 mid ((rvF8 F T mid 7 (X, b)).1)) := gCut_runs hG (rvq8_7 (F := F) (g := g) (ms := ms) (b := b) (T := T) (mid := mid) (X := X)) rfl (rvS8_k ..) rfl
theorem rvq8_8r (g : Gs) (ms : Int) (b : Bool) (T : Mx) (mid : V4) (X : Mx) : RunsTo Try.prog 206 rvcRRRRRRLRBB (rvS8 g ms b T 8 mid X) .normal (rvS8 g ms ((rvF8 F T mid 8 (X, b)).2) T 9 mid ((rvF8 F T mid 8 (X, b)).1)) := gCut_runs hG (rvq8_8 (F := F) (g := g) (ms := ms) (b := b) (T := T) (mid := mid) (X := X)) rfl (rvS8_k ..) rfl
theorem rvq8_9r (g : Gs) (ms : Int) (b : Bool) (T : Mx) (mid : V4) (X : Mx) : RunsTo Try.prog 206 rvcRRRRRRLRBB (rvS8 g ms b T 9 mid X) .normal (rvS8 g ms ((rvF8 F T mid 9 (X, b)).2) T 10 mid ((rvF8 F T mid 9 (X, b)).1)) := gCut_runs hG (rvq8_9 (F := F) (g := g) (ms := ms) (b := b) (T := T) (mid := mid) (X := X)) rfl (rvS8_k ..) rfl
theorem rvq8_10r (g : Gs) (ms : Int) (b : Bool) (T : Mx) (mid : V4) (X : Mx) : RunsTo Try.prog 206 rvcRRRRRRLRBB (rvS8 g ms b T 10 mid X) .normal (rvS8 g ms ((rvF8 F T mid 10 (X, b)).2) T 11 mid ((rvF8 F T mid 10 (X, b)).1)) := gCut_runs hG (rvq8_10 (F := F) (g := g) (ms := ms) (b := b) (T := T) (mid := mid) (X := X)) rfl (rvS8_k ..) rfl
theorem rvq8_11r (g : Gs) (ms : Int) (b : Bool) (T : Mx) (mid : V4) (X : Mx) : RunsTo Try.prog 206 rvcRRRRRRLRBB (rvS8 g ms b T 11 mid X) .normal (rvS8 g ms ((rvF8 F T mid 11 (X, b)).2) T 12 mid ((rvF8 F T mid 11 (X, b)).1)) := gCut_runs hG (rvq8_11 (F := F) (g := g) (ms := ms) (b := b) (T := T) (mid := mid) (X := X)) rfl (rvS8_k ..) rfl
theorem rvq8_12r (g : Gs) (ms : Int) (b : Bool) (T : Mx) (mid : V4) (X : Mx) : RunsTo Try.prog 206 rvcRRRRRRLRBB (rvS8 g ms b T 12 mid X) .normal (rvS8 g ms ((rvF8 F T mid 12 (X, b)).2) T 13 mid ((rvF8 F T mid 12 (X, b)).1)) := gCut_runs hG (rvq8_12 (F := F) (g := g) (ms := ms) (b := b) (T := T) (mid := mid) (X := X)) rfl (rvS8_k ..) rfl
theorem rvq8_xr (g : Gs) (ms : Int) (b : Bool) (T : Mx) (mid : V4) (X : Mx) : RunsTo Try.prog 206 rvcRRRRRRLRBB (rvS8 g ms b T 13 mid X) (.exit 4) (rvS9 g ms b mid X) := gCut_runs hG (rvq8_x (F := F) (g := g) (ms := ms) (b := b) (T := T) (mid := mid) (X := X)) rfl (rvS9_k ..) rfl
theorem rvq8_l (g : Gs) (ms : Int) (T : Mx) (mid : V4) (z0 : Mx × Bool) : RunsTo Try.prog 206 (.block 4 (.loop rvcRRRRRRLRBB)) (rvS8 g ms z0.2 T 0 mid z0.1) .normal (rvS9 g ms ((iterF (rvF8 F T mid) 0 13 z0).2) mid ((iterF (rvF8 F T mid) 0 13 z0).1)) :=
  RunsTo.rounds (P := Try.prog) (N := 206) (c := rvcRRRRRRLRBB) (id := 4) 13 (fun i z => (rvS8 g ms z.2 T (i : Nat) mid z.1)) (fun z => (rvS9 g ms z.2 mid z.1)) (rvF8 F T mid)
    (fun i z => below13 (p := fun i => RunsTo Try.prog 206 rvcRRRRRRLRBB (rvS8 g ms z.2 T (i : Nat) mid z.1) .normal (rvS8 g ms ((rvF8 F T mid i z).2) T (i + 1 : Nat) mid ((rvF8 F T mid i z).1)))
      (rvq8_0r hG (g := g) (ms := ms) (b := z.2) (T := T) (mid := mid) (X := z.1))
      (rvq8_1r hG (g := g) (ms := ms) (b := z.2) (T := T) (mid := mid) (X := z.1))
      (rvq8_2r hG (g := g) (ms := ms) (b := z.2) (T := T) (mid := mid) (X := z.1))
      (rvq8_3r hG (g := g) (ms := ms) (b := z.2) (T := T) (mid := mid) (X := z.1))
      (rvq8_4r hG (g := g) (ms := ms) (b := z.2) (T := T) (mid := mid) (X := z.1))
      (rvq8_5r hG (g := g) (ms := ms) (b := z.2) (T := T) (mid := mid) (X := z.1))
      (rvq8_6r hG (g := g) (ms := ms) (b := z.2) (T := T) (mid := mid) (X := z.1))
      (rvq8_7r hG (g := g) (ms := ms) (b := z.2) (T := T) (mid := mid) (X := z.1))
      (rvq8_8r hG (g := g) (ms := ms) (b := z.2) (T := T) (mid := mid) (X := z.1))
      (rvq8_9r hG (g := g) (ms := ms) (b := z.2) (T := T) (mid := mid) (X := z.1))
      (rvq8_10r hG (g := g) (ms := ms) (b := z.2) (T := T) (mid := mid) (X := z.1))
      (rvq8_11r hG (g := g) (ms := ms) (b := z.2) (T := T) (mid := mid) (X := z.1))
      (rvq8_12r hG (g := g) (ms := ms) (b := z.2) (T := T) (mid := mid) (X := z.1))
      i)
    (fun z => rvq8_xr hG (g := g) (ms := ms) (b := z.2) (T := T) (mid := mid) (X := z.1)) z0
theorem rvq9_r (g : Gs) (ms : Int) (b : Bool) (mid : V4) (X : Mx) : RunsTo Try.prog 206 rvcRRRRRRRL (rvS9 g ms b mid X) .normal (rvS10 g ms b mid X (fun _ => 0)) := gRun_runs hG (rvq9 (F := F) (g := g) (ms := ms) (b := b) (mid := mid) (X := X))
theorem rvq10_r (g : Gs) (ms : Int) (b : Bool) (mid : V4) (X : Mx) (m : (Nat → Int)) : RunsTo Try.prog 206 rvcRRRRRRRRLL (rvS10 g ms b mid X m) .normal (rvS11 g ms b 0 mid X m) := gRun_runs hG (rvq10 (F := F) (g := g) (ms := ms) (b := b) (mid := mid) (X := X) (m := m))
theorem rvq11_0r (g : Gs) (ms : Int) (b : Bool) (mid : V4) (X : Mx) (m : (Nat → Int)) : RunsTo Try.prog 206 rvcRRRRRRRRLRBB (rvS11 g ms b 0 mid X m) .normal (rvS11 g ms ((rvF11 F X 0 (m, b)).2) 1 mid X ((rvF11 F X 0 (m, b)).1)) := gCut_runs hG (rvq11_0 (F := F) (g := g) (ms := ms) (b := b) (mid := mid) (X := X) (m := m)) rfl (rvS11_k ..) rfl
theorem rvq11_1r (g : Gs) (ms : Int) (b : Bool) (mid : V4) (X : Mx) (m : (Nat → Int)) : RunsTo Try.prog 206 rvcRRRRRRRRLRBB (rvS11 g ms b 1 mid X m) .normal (rvS11 g ms ((rvF11 F X 1 (m, b)).2) 2 mid X ((rvF11 F X 1 (m, b)).1)) := gCut_runs hG (rvq11_1 (F := F) (g := g) (ms := ms) (b := b) (mid := mid) (X := X) (m := m)) rfl (rvS11_k ..) rfl
theorem rvq11_2r (g : Gs) (ms : Int) (b : Bool) (mid : V4) (X : Mx) (m : (Nat → Int)) : RunsTo Try.prog 206 rvcRRRRRRRRLRBB (rvS11 g ms b 2 mid X m) .normal (rvS11 g ms ((rvF11 F X 2 (m, b)).2) 3 mid X ((rvF11 F X 2 (m, b)).1)) := gCut_runs hG (rvq11_2 (F := F) (g := g) (ms := ms) (b := b) (mid := mid) (X := X) (m := m)) rfl (rvS11_k ..) rfl
theorem rvq11_3r (g : Gs) (ms : Int) (b : Bool) (mid : V4) (X : Mx) (m : (Nat → Int)) : RunsTo Try.prog 206 rvcRRRRRRRRLRBB (rvS11 g ms b 3 mid X m) .normal (rvS11 g ms ((rvF11 F X 3 (m, b)).2) 4 mid X ((rvF11 F X 3 (m, b)).1)) := gCut_runs hG (rvq11_3 (F := F) (g := g) (ms := ms) (b := b) (mid := mid) (X := X) (m := m)) rfl (rvS11_k ..) rfl
theorem rvq11_4r (g : Gs) (ms : Int) (b : Bool) (mid : V4) (X : Mx) (m : (Nat → Int)) : RunsTo Try.prog 206 rvcRRRRRRRRLRBB (rvS11 g ms b 4 mid X m) .normal (rvS11 g ms ((rvF11 F X 4 (m, b)).2) 5 mid X ((rvF11 F X 4 (m, b)).1)) := gCut_runs hG (rvq11_4 (F := F) (g := g) (ms := ms) (b := b) (mid := mid) (X := X) (m := m)) rfl (rvS11_k ..) rfl
theorem rvq11_5r (g : Gs) (ms : Int) (b : Bool) (mid : V4) (X : Mx) (m : (Nat → Int)) : RunsTo Try.prog 206 rvcRRRRRRRRLRBB (rvS11 g ms b 5 mid X m) .normal (rvS11 g ms ((rvF11 F X 5 (m, b)).2) 6 mid X ((rvF11 F X 5 (m, b)).1)) := gCut_runs hG (rvq11_5 (F := F) (g := g) (ms := ms) (b := b) (mid := mid) (X := X) (m := m)) rfl (rvS11_k ..) rfl
theorem rvq11_xr (g : Gs) (ms : Int) (b : Bool) (mid : V4) (X : Mx) (m : (Nat → Int)) : RunsTo Try.prog 206 rvcRRRRRRRRLRBB (rvS11 g ms b 6 mid X m) (.exit 6) (rvS12 g ms b mid X m) := gCut_runs hG (rvq11_x (F := F) (g := g) (ms := ms) (b := b) (mid := mid) (X := X) (m := m)) rfl (rvS12_k ..) rfl
theorem rvq11_l (g : Gs) (ms : Int) (mid : V4) (X : Mx) (z0 : (Nat → Int) × Bool) : RunsTo Try.prog 206 (.block 6 (.loop rvcRRRRRRRRLRBB)) (rvS11 g ms z0.2 0 mid X z0.1) .normal (rvS12 g ms ((iterF (rvF11 F X) 0 6 z0).2) mid X ((iterF (rvF11 F X) 0 6 z0).1)) :=
  RunsTo.rounds (P := Try.prog) (N := 206) (c := rvcRRRRRRRRLRBB) (id := 6) 6 (fun i z => (rvS11 g ms z.2 (i : Nat) mid X z.1)) (fun z => (rvS12 g ms z.2 mid X z.1)) (rvF11 F X)
    (fun i z => below6 (p := fun i => RunsTo Try.prog 206 rvcRRRRRRRRLRBB (rvS11 g ms z.2 (i : Nat) mid X z.1) .normal (rvS11 g ms ((rvF11 F X i z).2) (i + 1 : Nat) mid X ((rvF11 F X i z).1)))
      (rvq11_0r hG (g := g) (ms := ms) (b := z.2) (mid := mid) (X := X) (m := z.1))
      (rvq11_1r hG (g := g) (ms := ms) (b := z.2) (mid := mid) (X := X) (m := z.1))
      (rvq11_2r hG (g := g) (ms := ms) (b := z.2) (mid := mid) (X := X) (m := z.1))
      (rvq11_3r hG (g := g) (ms := ms) (b := z.2) (mid := mid) (X := X) (m := z.1))
      (rvq11_4r hG (g := g) (ms := ms) (b := z.2) (mid := mid) (X := X) (m := z.1))
      (rvq11_5r hG (g := g) (ms := ms) (b := z.2) (mid := mid) (X := X) (m := z.1))
      i)
    (fun z => rvq11_xr hG (g := g) (ms := ms) (b := z.2) (mid := mid) (X := X) (m := z.1)) z0
theorem rvq12_r (g : Gs) (ms : Int) (b : Bool) (mid : V4) (X : Mx) (m : (Nat → Int)) : RunsTo Try.prog 206 rvcRRRRRRRRRL (rvS12 g ms b mid X m) .normal (rvS13 g ms ((F.ls b (x13of X, R6.of m, ())).2) mid m ((F.ls b (x13of X, R6.of m, ())).1)) := gRun_runs hG (rvq12 (F := F) (g := g) (ms := ms) (b := b) (mid := mid) (X := X) (m := m))
theorem rvq13_r (g : Gs) (ms : Int) (b : Bool) (mid : V4) (m : (Nat → Int)) (d : X13) : RunsTo Try.prog 206 rvcRRRRRRRRRRL (rvS13 g ms b mid m d) .normal (rvS14 g ms b mid m d mx0) := gRun_runs hG (rvq13 (F := F) (g := g) (ms := ms) (b := b) (mid := mid) (m := m) (d := d))
theorem rvq14_r (g : Gs) (ms : Int) (b : Bool) (mid : V4) (m : (Nat → Int)) (d : X13) (P : Mx) : RunsTo Try.prog 206 rvcRRRRRRRRRRRLL (rvS14 g ms b mid m d P) .normal (rvS15 g ms b 0 mid m d P) := gRun_runs hG (rvq14 (F := F) (g := g) (ms := ms) (b := b) (mid := mid) (m := m) (d := d) (P := P))
theorem rvq15_0r (g : Gs) (ms : Int) (b : Bool) (mid : V4) (m : (Nat → Int)) (d : X13) (P : Mx) : RunsTo Try.prog 206 rvcRRRRRRRRRRRLRBB (rvS15 g ms b 0 mid m d P) .normal (rvS15 g ms ((rvF15 F d 0 (P, b)).2) 1 mid m d ((rvF15 F d 0 (P, b)).1)) := gCut_runs hG (rvq15_0 (F := F) (g := g) (ms := ms) (b := b) (mid := mid) (m := m) (d := d) (P := P)) rfl (rvS15_k ..) rfl
theorem rvq15_1r (g : Gs) (ms : Int) (b : Bool) (mid : V4) (m : (Nat → Int)) (d : X13) (P : Mx) : RunsTo Try.prog 206 rvcRRRRRRRRRRRLRBB (rvS15 g ms b 1 mid m d P) .normal (rvS15 g ms ((rvF15 F d 1 (P, b)).2) 2 mid m d ((rvF15 F d 1 (P, b)).1)) := gCut_runs hG (rvq15_1 (F := F) (g := g) (ms := ms) (b := b) (mid := mid) (m := m) (d := d) (P := P)) rfl (rvS15_k ..) rfl
theorem rvq15_2r (g : Gs) (ms : Int) (b : Bool) (mid : V4) (m : (Nat → Int)) (d : X13) (P : Mx) : RunsTo Try.prog 206 rvcRRRRRRRRRRRLRBB (rvS15 g ms b 2 mid m d P) .normal (rvS15 g ms ((rvF15 F d 2 (P, b)).2) 3 mid m d ((rvF15 F d 2 (P, b)).1)) := gCut_runs hG (rvq15_2 (F := F) (g := g) (ms := ms) (b := b) (mid := mid) (m := m) (d := d) (P := P)) rfl (rvS15_k ..) rfl
theorem rvq15_3r (g : Gs) (ms : Int) (b : Bool) (mid : V4) (m : (Nat → Int)) (d : X13) (P : Mx) : RunsTo Try.prog 206 rvcRRRRRRRRRRRLRBB (rvS15 g ms b 3 mid m d P) .normal (rvS15 g ms ((rvF15 F d 3 (P, b)).2) 4 mid m d ((rvF15 F d 3 (P, b)).1)) := gCut_runs hG (rvq15_3 (F := F) (g := g) (ms := ms) (b := b) (mid := mid) (m := m) (d := d) (P := P)) rfl (rvS15_k ..) rfl
theorem rvq15_4r (g : Gs) (ms : Int) (b : Bool) (mid : V4) (m : (Nat → Int)) (d : X13) (P : Mx) : RunsTo Try.prog 206 rvcRRRRRRRRRRRLRBB (rvS15 g ms b 4 mid m d P) .normal (rvS15 g ms ((rvF15 F d 4 (P, b)).2) 5 mid m d ((rvF15 F d 4 (P, b)).1)) := gCut_runs hG (rvq15_4 (F := F) (g := g) (ms := ms) (b := b) (mid := mid) (m := m) (d := d) (P := P)) rfl (rvS15_k ..) rfl
theorem rvq15_5r (g : Gs) (ms : Int) (b : Bool) (mid : V4) (m : (Nat → Int)) (d : X13) (P : Mx) : RunsTo Try.prog 206 rvcRRRRRRRRRRRLRBB (rvS15 g ms b 5 mid m d P) .normal (rvS15 g ms ((rvF15 F d 5 (P, b)).2) 6 mid m d ((rvF15 F d 5 (P, b)).1)) := gCut_runs hG (rvq15_5 (F := F) (g := g) (ms := ms) (b := b) (mid := mid) (m := m) (d := d) (P := P)) rfl (rvS15_k ..) rfl
theorem rvq15_xr (g : Gs) (ms : Int) (b : Bool) (mid : V4) (m : (Nat → Int)) (d : X13) (P : Mx) : RunsTo Try.prog 206 rvcRRRRRRRRRRRLRBB (rvS15 g ms b 6 mid m d P) (.exit 8) (rvS16 g ms b mid m P) := gCut_runs hG (rvq15_x (F := F) (g := g) (ms := ms) (b := b) (mid := mid) (m := m) (d := d) (P := P)) rfl (rvS16_k ..) rfl
theorem rvq15_l (g : Gs) (ms : Int) (mid : V4) (m : (Nat → Int)) (d : X13) (z0 : Mx × Bool) : RunsTo Try.prog 206 (.block 8 (.loop rvcRRRRRRRRRRRLRBB)) (rvS15 g ms z0.2 0 mid m d z0.1) .normal (rvS16 g ms ((iterF (rvF15 F d) 0 6 z0).2) mid m ((iterF (rvF15 F d) 0 6 z0).1)) :=
  RunsTo.rounds (P := Try.prog) (N := 206) (c := rvcRRRRRRRRRRRLRBB) (id := 8) 6 (fun i z => (rvS15 g ms z.2 (i : Nat) mid m d z.1)) (fun z => (rvS16 g ms z.2 mid m z.1)) (rvF15 F d)
    (fun i z => below6 (p := fun i => RunsTo Try.prog 206 rvcRRRRRRRRRRRLRBB (rvS15 g ms z.2 (i : Nat) mid m d z.1) .normal (rvS15 g ms ((rvF15 F d i z).2) (i + 1 : Nat) mid m d ((rvF15 F d i z).1)))
      (rvq15_0r hG (g := g) (ms := ms) (b := z.2) (mid := mid) (m := m) (d := d) (P := z.1))
      (rvq15_1r hG (g := g) (ms := ms) (b := z.2) (mid := mid) (m := m) (d := d) (P := z.1))
      (rvq15_2r hG (g := g) (ms := ms) (b := z.2) (mid := mid) (m := m) (d := d) (P := z.1))
      (rvq15_3r hG (g := g) (ms := ms) (b := z.2) (mid := mid) (m := m) (d := d) (P := z.1))
      (rvq15_4r hG (g := g) (ms := ms) (b := z.2) (mid := mid) (m := m) (d := d) (P := z.1))
      (rvq15_5r hG (g := g) (ms := ms) (b := z.2) (mid := mid) (m := m) (d := d) (P := z.1))
      i)
    (fun z => rvq15_xr hG (g := g) (ms := ms) (b := z.2) (mid := mid) (m := m) (d := d) (P := z.1)) z0
theorem rvq16_r (g : Gs) (ms : Int) (b : Bool) (mid : V4) (m : (Nat → Int)) (P : Mx) : RunsTo Try.prog 206 rvcRRRRRRRRRRRRLL (rvS16 g ms b mid m P) .normal (rvS17 g ms b 0 mid m P) := gRun_runs hG (rvq16 (F := F) (g := g) (ms := ms) (b := b) (mid := mid) (m := m) (P := P))
theorem rvq17_0r (g : Gs) (ms : Int) (b : Bool) (mid : V4) (m : (Nat → Int)) (P : Mx) : RunsTo Try.prog 206 rvcRRRRRRRRRRRRLRBB (rvS17 g ms b 0 mid m P) .normal (rvS17 g ms ((rvF17 F ms 0 (P, b)).2) 1 mid m ((rvF17 F ms 0 (P, b)).1)) := gCut_runs hG (rvq17_0 (F := F) (g := g) (ms := ms) (b := b) (mid := mid) (m := m) (P := P)) rfl (rvS17_k ..) rfl
theorem rvq17_1r (g : Gs) (ms : Int) (b : Bool) (mid : V4) (m : (Nat → Int)) (P : Mx) : RunsTo Try.prog 206 rvcRRRRRRRRRRRRLRBB (rvS17 g ms b 1 mid m P) .normal (rvS17 g ms ((rvF17 F ms 1 (P, b)).2) 2 mid m ((rvF17 F ms 1 (P, b)).1)) := gCut_runs hG (rvq17_1 (F := F) (g := g) (ms := ms) (b := b) (mid := mid) (m := m) (P := P)) rfl (rvS17_k ..) rfl
theorem rvq17_2r (g : Gs) (ms : Int) (b : Bool) (mid : V4) (m : (Nat → Int)) (P : Mx) : RunsTo Try.prog 206 rvcRRRRRRRRRRRRLRBB (rvS17 g ms b 2 mid m P) .normal (rvS17 g ms ((rvF17 F ms 2 (P, b)).2) 3 mid m ((rvF17 F ms 2 (P, b)).1)) := gCut_runs hG (rvq17_2 (F := F) (g := g) (ms := ms) (b := b) (mid := mid) (m := m) (P := P)) rfl (rvS17_k ..) rfl
theorem rvq17_xr (g : Gs) (ms : Int) (b : Bool) (mid : V4) (m : (Nat → Int)) (P : Mx) : RunsTo Try.prog 206 rvcRRRRRRRRRRRRLRBB (rvS17 g ms b 3 mid m P) (.exit 12) (rvS18 g ms b mid m P) := gCut_runs hG (rvq17_x (F := F) (g := g) (ms := ms) (b := b) (mid := mid) (m := m) (P := P)) rfl (rvS18_k ..) rfl
theorem rvq17_l (g : Gs) (ms : Int) (mid : V4) (m : (Nat → Int)) (z0 : Mx × Bool) : RunsTo Try.prog 206 (.block 12 (.loop rvcRRRRRRRRRRRRLRBB)) (rvS17 g ms z0.2 0 mid m z0.1) .normal (rvS18 g ms ((iterF (rvF17 F ms) 0 3 z0).2) mid m ((iterF (rvF17 F ms) 0 3 z0).1)) :=
  RunsTo.rounds (P := Try.prog) (N := 206) (c := rvcRRRRRRRRRRRRLRBB) (id := 12) 3 (fun i z => (rvS17 g ms z.2 (i : Nat) mid m z.1)) (fun z => (rvS18 g ms z.2 mid m z.1)) (rvF17 F ms)
    (fun i z => below3 (p := fun i => RunsTo Try.prog 206 rvcRRRRRRRRRRRRLRBB (rvS17 g ms z.2 (i : Nat) mid m z.1) .normal (rvS17 g ms ((rvF17 F ms i z).2) (i + 1 : Nat) mid m ((rvF17 F ms i z).1)))
      (rvq17_0r hG (g := g) (ms := ms) (b := z.2) (mid := mid) (m := m) (P := z.1))
      (rvq17_1r hG (g := g) (ms := ms) (b := z.2) (mid := mid) (m := m) (P := z.1))
      (rvq17_2r hG (g := g) (ms := ms) (b := z.2) (mid := mid) (m := m) (P := z.1))
      i)
    (fun z => rvq17_xr hG (g := g) (ms := ms) (b := z.2) (mid := mid) (m := m) (P := z.1)) z0
theorem rvq18_r (g : Gs) (ms : Int) (b : Bool) (mid : V4) (m : (Nat → Int)) (P : Mx) : RunsTo Try.prog 206 rvcRRRRRRRRRRRRRL (rvS18 g ms b mid m P) .normal (rvS19 g ((rv4 F mid m b).2) m P ((rv4 F mid m b).1)) := gRun_runs hG (rvq18 (F := F) (g := g) (ms := ms) (b := b) (mid := mid) (m := m) (P := P))
theorem rvq19_r (g : Gs) (b : Bool) (m : (Nat → Int)) (P : Mx) (q : V4) : RunsTo Try.prog 206 rvcRRRRRRRRRRRRRRL (rvS19 g b m P q) .normal (rvS20 ((F.va b (g.bias, (halvesV (R6.of m)).b, ())).2) P q ((F.va b (g.bias, (halvesV (R6.of m)).b, ())).1)) := gRun_runs hG (rvq19 (F := F) (g := g) (b := b) (m := m) (P := P) (q := q))
theorem rvq20_r (b : Bool) (P : Mx) (q : V4) (bi : V3) : RunsTo Try.prog 206 rvcRRRRRRRRRRRRRRR (rvS20 b P q bi) .ret (rvS21 b (bif b then Gs.zero else ⟨q, bi, M6.of P⟩)) := by
  refine gRun_runs hG ((rvq20 (F := F) (b := b) (P := P) (q := q) (bi := bi)).trans ?_)
  cases b <;> rfl
end
/-- What a guess is behind a move, by the document. -/
def rmoveO (F : ROps) (b : Bool) (a : Gs × V3 × Int × Unit) : Gs × Bool :=
  let z2 := F.pt (moveB a.2.2.1 b) (a.1, ())
  let z5 := iterF (rvF5 F a.1 a.2.1 a.2.2.1 z2.1) 0 13 (mx0, z2.2)
  let z6 := F.un z5.2 (v4of (z5.1 0), ())
  let z8 := iterF (rvF8 F z5.1 z6.1) 0 13 (z2.1.at, z6.2)
  let z11 := iterF (rvF11 F z8.1) 0 6 (fun _ => 0, z8.2)
  let z12 := F.ls z11.2 (x13of z8.1, R6.of z11.1, ())
  let z15 := iterF (rvF15 F z12.1) 0 6 (mx0, z12.2)
  let z17 := iterF (rvF17 F a.2.2.1) 0 3 (z15.1, z15.2)
  let z18 := rv4 F z6.1 z11.1 z17.2
  let z19 := F.va z18.2 (a.1.bias, (halvesV (R6.of z11.1)).b, ())
  ((bif z19.2 then Gs.zero else ⟨z18.1, z19.1, M6.of z17.1⟩), z19.2)
theorem rvR (b : Bool) (r : Gs) : resA Try.prog (rvS21 b r) Try.f52.results.toList = some [.val (Cod.enc r)] := by kernel_rfl
theorem f103_is : Try.prog.funcs[52]? = some Try.f52 := by kernel_rfl
section
variable {F : ROps} (hG : GamOk Try.prog (eR F).gam)
include hG
theorem rmoveO_runs (b : Bool) (g : Gs) (rate : V3) (ms : Int) : RunsTo Try.prog 206 rvC (startS 206 [.ptr 0 0, .val (Cod.enc g), .val (Cod.enc rate), .val (Cod.enc ms)] (row 27 b)) .ret (rvS21 ((rmoveO F b (g, rate, ms, ())).2) ((rmoveO F b (g, rate, ms, ())).1)) := by
  have hc : rvC = (.seq rvcL (.seq rvcRL (.seq rvcRRL (.seq rvcRRRL (.seq (.seq rvcRRRRLL (.block 0 (.loop rvcRRRRLRBB))) (.seq rvcRRRRRL (.seq (.seq rvcRRRRRRLL (.block 4 (.loop rvcRRRRRRLRBB))) (.seq rvcRRRRRRRL (.seq (.seq rvcRRRRRRRRLL (.block 6 (.loop rvcRRRRRRRRLRBB))) (.seq rvcRRRRRRRRRL (.seq rvcRRRRRRRRRRL (.seq (.seq rvcRRRRRRRRRRRLL (.block 8 (.loop rvcRRRRRRRRRRRLRBB))) (.seq (.seq rvcRRRRRRRRRRRRLL (.block 12 (.loop rvcRRRRRRRRRRRRLRBB))) (.seq rvcRRRRRRRRRRRRRL (.seq rvcRRRRRRRRRRRRRRL rvcRRRRRRRRRRRRRRR))))))))))))))) := by
    unfold rvC
    rw [rvC_is]
    rfl
  rw [hc]
  unfold rmoveO
  dsimp only
  have h0 := rvq0_r hG (g := g) (rate := rate) (ms := ms) (b := b)
  have h1 := rvq1_r hG (g := g) (rate := rate) (ms := ms) (b := b)
  have h2 := rvq2_r hG (g := g) (rate := rate) (ms := ms) (b := moveB ms b)
  generalize F.pt (moveB ms b) (g, ()) = z2 at h2 ⊢
  have h3 := rvq3_r hG (g := g) (rate := rate) (ms := ms) (b := z2.2) (x := z2.1)
  have h4 := rvq4_r hG (g := g) (rate := rate) (ms := ms) (b := z2.2) (x := z2.1) (T := mx0)
  have h5 := rvq5_l hG (g := g) (rate := rate) (ms := ms) (x := z2.1) (z0 := (mx0, z2.2))
  dsimp only at h5
  generalize iterF (rvF5 F g rate ms z2.1) 0 13 (mx0, z2.2) = z5 at h5 ⊢
  have h6 := rvq6_r hG (g := g) (rate := rate) (ms := ms) (b := z5.2) (x := z2.1) (T := z5.1)
  generalize F.un z5.2 (v4of (z5.1 0), ()) = z6 at h6 ⊢
  have h7 := rvq7_r hG (g := g) (ms := ms) (b := z6.2) (x := z2.1) (T := z5.1) (mid := z6.1)
  have h8 := rvq8_l hG (g := g) (ms := ms) (T := z5.1) (mid := z6.1) (z0 := (z2.1.at, z6.2))
  dsimp only at h8
  generalize iterF (rvF8 F z5.1 z6.1) 0 13 (z2.1.at, z6.2) = z8 at h8 ⊢
  have h9 := rvq9_r hG (g := g) (ms := ms) (b := z8.2) (mid := z6.1) (X := z8.1)
  have h10 := rvq10_r hG (g := g) (ms := ms) (b := z8.2) (mid := z6.1) (X := z8.1) (m := fun _ => 0)
  have h11 := rvq11_l hG (g := g) (ms := ms) (mid := z6.1) (X := z8.1) (z0 := (fun _ => 0, z8.2))
  dsimp only at h11
  generalize iterF (rvF11 F z8.1) 0 6 (fun _ => 0, z8.2) = z11 at h11 ⊢
  have h12 := rvq12_r hG (g := g) (ms := ms) (b := z11.2) (mid := z6.1) (X := z8.1) (m := z11.1)
  generalize F.ls z11.2 (x13of z8.1, R6.of z11.1, ()) = z12 at h12 ⊢
  have h13 := rvq13_r hG (g := g) (ms := ms) (b := z12.2) (mid := z6.1) (m := z11.1) (d := z12.1)
  have h14 := rvq14_r hG (g := g) (ms := ms) (b := z12.2) (mid := z6.1) (m := z11.1) (d := z12.1) (P := mx0)
  have h15 := rvq15_l hG (g := g) (ms := ms) (mid := z6.1) (m := z11.1) (d := z12.1) (z0 := (mx0, z12.2))
  dsimp only at h15
  generalize iterF (rvF15 F z12.1) 0 6 (mx0, z12.2) = z15 at h15 ⊢
  have h16 := rvq16_r hG (g := g) (ms := ms) (b := z15.2) (mid := z6.1) (m := z11.1) (P := z15.1)
  have h17 := rvq17_l hG (g := g) (ms := ms) (mid := z6.1) (m := z11.1) (z0 := (z15.1, z15.2))
  dsimp only at h17
  generalize iterF (rvF17 F ms) 0 3 (z15.1, z15.2) = z17 at h17 ⊢
  have h18 := rvq18_r hG (g := g) (ms := ms) (b := z17.2) (mid := z6.1) (m := z11.1) (P := z17.1)
  generalize rv4 F z6.1 z11.1 z17.2 = z18 at h18 ⊢
  have h19 := rvq19_r hG (g := g) (b := z18.2) (m := z11.1) (P := z17.1) (q := z18.1)
  generalize F.va z18.2 (g.bias, (halvesV (R6.of z11.1)).b, ()) = z19 at h19 ⊢
  have h20 := rvq20_r hG (b := z19.2) (P := z17.1) (q := z18.1) (bi := z19.1)
  exact (h0.seq (h1.seq (h2.seq (h3.seq ((h4.seq h5).seq (h6.seq ((h7.seq h8).seq (h9.seq ((h10.seq h11).seq (h12.seq (h13.seq ((h14.seq h15).seq ((h16.seq h17).seq (h18.seq (h19.seq h20)))))))))))))))
theorem rmoveO_ok : SumOk Try.prog 52 (S 27 (rmoveO F)) := by
  intro args cs r cs' h
  obtain ⟨b, a, rfl, rfl, rfl, rfl⟩ := S_sel h
  obtain ⟨g, rate, ms, u⟩ := a
  refine sum_runs f103_is (c := rvC) (by unfold rvC; rw [rvC_is]; rfl) rvN (by show 4 ≤ 206; omega) (by simp [row]) rfl rfl rfl (.inr rfl) (rmoveO_runs hG b g rate ms) (rvR ..) rfl rfl (fun b' c hb => ?_) rfl rfl
  match b', hb with
  | 0, hb => cases hb; rfl
  | n + 1, hb => simp [row] at hb
end
end Go.Ab
