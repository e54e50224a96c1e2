/- A part of the proof of 'FilterMeets': lemmas, no statement of their own; no condition. -/
import Derived.Test.YtoocjipllmkjcaaGreatFkN
import Derived.Test.YtoocjipllmkjcaaGreatFkO
import Derived.Test.YtoocjipllmkjcaaGreatFkP
import Derived.Test.YtoocjipllmkjcaaGreatFkQ
import Derived.Test.YtoocjipllmkjcaaGreatGFjD
/- What a guess is behind what is seen, by the document. -/
namespace Go.Ab
open Go Go.Proofs
section
variable {F : ROps} (hG : GamOk Tryz.prog (eR F).gam)
include hG
theorem rwq0_r (g : Gs) (sky : P2) (body : P2) (b : Bool) : RunsTo Tryz.prog 322 rwcL (startS 322 [.ptr 0 0, .val (Cod.enc g), .val (Cod.enc sky), .val (Cod.enc body)] (row 59 b)) .normal (rwS1 g sky body b) := gRun_runs hG (rwq0 (F := F) (g := g) (sky := sky) (body := body) (b := b))
theorem rwq1_r (g : Gs) (sky : P2) (body : P2) (b : Bool) : RunsTo Tryz.prog 322 rwcRLL (rwS1 g sky body b) .normal (rwS2 g sky body b 0) := gRun_runs hG (rwq1 (F := F) (g := g) (sky := sky) (body := body) (b := b))
theorem rwq2_0r (g : Gs) (sky : P2) (body : P2) (b : Bool) : RunsTo Tryz.prog 322 rwcRLRBB (rwS2 g sky body b 0) .normal (rwS2 g ((rwF2 F 0 (sky, body, b)).1) ((rwF2 F 0 (sky, body, b)).2.1) ((rwF2 F 0 (sky, body, b)).2.2) 1) := gCut_runs hG (rwq2_0 (F := F) (g := g) (sky := sky) (body := body) (b := b)) rfl (rwS2_k ..) rfl
theorem rwq2_1r (g : Gs) (sky : P2) (body : P2) (b : Bool) : RunsTo Tryz.prog 322 rwcRLRBB (rwS2 g sky body b 1) .normal (rwS2 g ((rwF2 F 1 (sky, body, b)).1) ((rwF2 F 1 (sky, body, b)).2.1) ((rwF2 F 1 (sky, body, b)).2.2) 2) := gCut_runs hG (rwq2_1 (F := F) (g := g) (sky := sky) (body := body) (b := b)) rfl (rwS2_k ..) rfl
theorem rwq2_xr (g : Gs) (sky : P2) (body : P2) (b : Bool) : RunsTo Tryz.prog 322 rwcRLRBB (rwS2 g sky body b 2) (.exit 0) (rwS3 g sky body b) := gCut_runs hG (rwq2_x (F := F) (g := g) (sky := sky) (body := body) (b := b)) rfl (rwS3_k ..) rfl
theorem rwq2_l (g : Gs) (z0 : P2 × P2 × Bool) : RunsTo Tryz.prog 322 (.block 0 (.loop rwcRLRBB)) (rwS2 g z0.1 z0.2.1 z0.2.2 0) .normal (rwS3 g ((iterF (rwF2 F) 0 2 z0).1) ((iterF (rwF2 F) 0 2 z0).2.1) ((iterF (rwF2 F) 0 2 z0).2.2)) :=
  RunsTo.rounds (P := Tryz.prog) (N := 322) (c := rwcRLRBB) (id := 0) 2 (fun i z => (rwS2 g z.1 z.2.1 z.2.2 (i : Nat))) (fun z => (rwS3 g z.1 z.2.1 z.2.2)) (rwF2 F)
    (fun i z => below2 (p := fun i => RunsTo Tryz.prog 322 rwcRLRBB (rwS2 g z.1 z.2.1 z.2.2 (i : Nat)) .normal (rwS2 g ((rwF2 F i z).1) ((rwF2 F i z).2.1) ((rwF2 F i z).2.2) (i + 1 : Nat)))
      (rwq2_0r hG (g := g) (sky := z.1) (body := z.2.1) (b := z.2.2))
      (rwq2_1r hG (g := g) (sky := z.1) (body := z.2.1) (b := z.2.2))
      i)
    (fun z => rwq2_xr hG (g := g) (sky := z.1) (body := z.2.1) (b := z.2.2)) z0
theorem rwq3_r (g : Gs) (sky : P2) (body : P2) (b : Bool) : RunsTo Tryz.prog 322 rwcRRL (rwS3 g sky body b) .normal (rwS4 g sky body ((F.pt b (g, ())).2) ((F.pt b (g, ())).1)) := gRun_runs hG (rwq3 (F := F) (g := g) (sky := sky) (body := body) (b := b))
theorem rwq4_r (g : Gs) (sky : P2) (body : P2) (b : Bool) (x : X13) : RunsTo Tryz.prog 322 rwcRRRL (rwS4 g sky body b x) .normal (rwS5 g sky body b x mx0) := gRun_runs hG (rwq4 (F := F) (g := g) (sky := sky) (body := body) (b := b) (x := x))
theorem rwq5_r (g : Gs) (sky : P2) (body : P2) (b : Bool) (x : X13) (Z : Mx) : RunsTo Tryz.prog 322 rwcRRRRLL (rwS5 g sky body b x Z) .normal (rwS6 g sky body b x Z 0) := gRun_runs hG (rwq5 (F := F) (g := g) (sky := sky) (body := body) (b := b) (x := x) (Z := Z))
theorem rwq6_0r (g : Gs) (sky : P2) (body : P2) (b : Bool) (x : X13) (Z : Mx) : RunsTo Tryz.prog 322 rwcRRRRLRBB (rwS6 g sky body b x Z 0) .normal (rwS6 g sky body ((rwF6 F g sky x 0 (Z, b)).2) x ((rwF6 F g sky x 0 (Z, b)).1) 1) := gCut_runs hG (rwq6_0 (F := F) (g := g) (sky := sky) (body := body) (b := b) (x := x) (Z := Z)) rfl (rwS6_k ..) rfl
theorem rwq6_1r (g : Gs) (sky : P2) (body : P2) (b : Bool) (x : X13) (Z : Mx) : RunsTo Tryz.prog 322 rwcRRRRLRBB (rwS6 g sky body b x Z 1) .normal (rwS6 g sky body ((rwF6 F g sky x 1 (Z, b)).2) x ((rwF6 F g sky x 1 (Z, b)).1) 2) := gCut_runs hG (rwq6_1 (F := F) (g := g) (sky := sky) (body := body) (b := b) (x := x) (Z := Z)) rfl (rwS6_k ..) rfl
theorem rwq6_2r (g : Gs) (sky : P2) (body : P2) (b : Bool) (x : X13) (Z : Mx) : RunsTo Tryz.prog 322 rwcRRRRLRBB (rwS6 g sky body b x Z 2) .normal (rwS6 g sky body ((rwF6 F g sky x 2 (Z, b)).2) x ((rwF6 F g sky x 2 (Z, b)).1) 3) := gCut_runs hG (rwq6_2 (F := F) (g := g) (sky := sky) (body := body) (b := b) (x := x) (Z := Z)) rfl (rwS6_k ..) rfl
theorem rwq6_3r (g : Gs) (sky : P2) (body : P2) (b : Bool) (x : X13) (Z : Mx) : RunsTo Tryz.prog 322 rwcRRRRLRBB (rwS6 g sky body b x Z 3) .normal (rwS6 g sky body ((rwF6 F g sky x 3 (Z, b)).2) x ((rwF6 F g sky x 3 (Z, b)).1) 4) := gCut_runs hG (rwq6_3 (F := F) (g := g) (sky := sky) (body := body) (b := b) (x := x) (Z := Z)) rfl (rwS6_k ..) rfl
theorem rwq6_4r (g : Gs) (sky : P2) (body : P2) (b : Bool) (x : X13) (Z : Mx) : RunsTo Tryz.prog 322 rwcRRRRLRBB (rwS6 g sky body b x Z 4) .normal (rwS6 g sky body ((rwF6 F g sky x 4 (Z, b)).2) x ((rwF6 F g sky x 4 (Z, b)).1) 5) := gCut_runs hG (rwq6_4 (F := F) (g := g) (sky := sky) (body := body) (b := b) (x := x) (Z := Z)) rfl (rwS6_k ..) rfl
theorem rwq6_5r (g : Gs) (sky : P2) (body : P2) (b : Bool) (x : X13) (Z : Mx) : RunsTo Tryz.prog 322 rwcRRRRLRBB (rwS6 g sky body b x Z 5) .normal (rwS6 g sky body ((rwF6 F g sky x 5 (Z, b)).2) x ((rwF6 F g sky x 5 (Z, b)).1) 6) := gCut_runs hG (rwq6_5 (F := F) (g := g) (sky := sky) (body := body) (b := b) (x := x) (Z := Z)) rfl (rwS6_k ..) rfl
theorem rwq6_6r (g : Gs) (sky : P2) (body : P2) (b : Bool) (x : X13) (Z : Mx) : RunsTo Tryz.prog 322 rwcRRRRLRBB (rwS6 g sky body b x Z 6) .normal (rwS6 g sky body ((rwF6 F g sky x 6 (Z, b)).2) x ((rwF6 F g sky x 6 (Z, b)).1) 7) := gCut_runs hG (rwq6_6 (F := F) (g := g) (sky := sky) (body := body) (b := b) (x := x) (Z := Z)) rfl (rwS6_k ..) rfl
theorem rwq6_7r (g : Gs) (sky : P2) (body : P2) (b : Bool) (x : X13) (Z : Mx) : RunsTo Tryz.prog 322 rwcRRRRLRBB (rwS6 g sky body b x Z 7) .normal (rwS6 g sky body ((rwF6 F g sky x 7 (Z, b)).2) x ((rwF6 F g sky x 7 (Z, b)).1) 8) := gCut_runs hG (rwq6_7 (F := F) (g := g) (sky := sky) (body := body) (b := b) (x := x) (Z := Z)) rfl (rwS6_k ..) rfl
theorem rwq6_8r (g : Gs) (sky : P2) (body : P2) (b : Bool) (x : X13) (Z : Mx) : RunsTo Tryz.prog 322 rwcRRRRLRBB (rwS6 g sky body b x Z 8) .normal (rwS6 g sky body ((rwF6 F g sky x 8 (Z, b)).2) x ((rwF6 F g sky x 8 (Z, b)).1) 9) := gCut_runs hG (rwq6_8 (F := F) (g := g) (sky := sky) (body := body) (b := b) (x := x) (Z := Z)) rfl (rwS6_k ..) rfl
theorem rwq6_9r (g : Gs) (sky : P2) (body : P2) (b : Bool) (x : X13) (Z : Mx) : RunsTo Tryz.prog 322 rwcRRRRLRBB (rwS6 g sky body b x Z 9) .normal (rwS6 g sky body ((rwF6 F g sky x 9 (Z, b)).2) x ((rwF6 F g sky x 9 (Z, b)).1) 10) := gCut_runs hG (rwq6_9 (F := F) (g := g) (sky := sky) (body := body) (b := b) (x := x) (Z := Z)) rfl (rwS6_k ..) rfl
theorem rwq6_10r (g : Gs) (sky : P2) (body : P2) (b : Bool) (x : X13) (Z : Mx) : RunsTo Tryz.prog 322 rwcRRRRLRBB (rwS6 g sky body b x Z 10) .normal (rwS6 g sky body ((rwF6 F g sky x 10 (Z, b)).2) x ((rwF6 F g sky x 10 (Z, b)).1) 11) := gCut_runs hG (rwq6_10 (F := F) (g := g) (sky := sky) (body := body) (b := b) (x := x) (Z := Z)) rfl (rwS6_k ..) rfl
theorem rwq6_11r (g : Gs) (sky : P2) (body : P2) (b : Bool) (x : X13) (Z : Mx) : RunsTo Tryz.prog 322 rwcRRRRLRBB (rwS6 g sky body b x Z 11) .normal (rwS6 g sky body ((rwF6 F g sky x 11 (Z, b)).2) x ((rwF6 F g sky x 11 (Z, b)).1) 12) := gCut_runs hG (rwq6_11 (F := F) (g := g) (sky := sky) (body := body) (b := b) (x := x) (Z := Z)) rfl (rwS6_k ..) rfl
theorem rwq6_12r (g : Gs) (sky : P2) (body : P2) (b : Bool) (x : X13) (Z : Mx) : RunsTo Tryz.prog 322 rwcRRRRLRBB (rwS6 g sky body b x Z 12) .normal (rwS6 g sky body ((rwF6 F g sky x 12 (Z, b)).2) x ((rwF6 F g sky x 12 (Z, b)).1) 13) := gCut_runs hG (rwq6_12 (F := F) (g := g) (sky := sky) (body := body) (b := b) (x := x) (Z := Z)) rfl (rwS6_k ..) rfl
theorem rwq6_xr (g : Gs) (sky : P2) (body : P2) (b : Bool) (x : X13) (Z : Mx) : RunsTo Tryz.prog 322 rwcRRRRLRBB (rwS6 g sky body b x Z 13) (.exit 2) (rwS7 g body b x Z) := gCut_runs hG (rwq6_x (F := F) (g := g) (sky := sky) (body := body) (b := b) (x := x) (Z := Z)) rfl (rwS7_k ..) rfl
theorem rwq6_l (g : Gs) (sky : P2) (body : P2) (x : X13) (z0 : Mx × Bool) : RunsTo Tryz.prog 322 (.block 2 (.loop rwcRRRRLRBB)) (rwS6 g sky body z0.2 x z0.1 0) .normal (rwS7 g body ((iterF (rwF6 F g sky x) 0 13 z0).2) x ((iterF (rwF6 F g sky x) 0 13 z0).1)) :=
  RunsTo.rounds (P := Tryz.prog) (N := 322) (c := rwcRRRRLRBB) (id := 2) 13 (fun i z => (rwS6 g sky body z.2 x z.1 (i : Nat))) (fun z => (rwS7 g body z.2 x z.1)) (rwF6 F g sky x)
    (fun i z => below13 (p := fun i => RunsTo Tryz.prog 322 rwcRRRRLRBB (rwS6 g sky body z.2 x z.1 (i : Nat)) .normal (rwS6 g sky body ((rwF6 F g sky x i z).2) x ((rwF6 F g sky x i z).1) (i + 1 : Nat)))
      (rwq6_0r hG (g := g) (sky := sky) (body := body) (b := z.2) (x := x) (Z := z.1))
      (rwq6_1r hG (g := g) (sky := sky) (body := body) (b := z.2) (x := x) (Z := z.1))
      (rwq6_2r hG (g := g) (sky := sky) (body := body) (b := z.2) (x := x) (Z := z.1))
      (rwq6_3r hG (g := g) (sky := sky) (body := body) (b := z.2) (x := x) (Z := z.1))
      (rwq6_4r hG (g := g) (sky := sky) (body := body) (b := z.2) (x := x) (Z := z.1))
      (rwq6_5r hG (g := g) (sky := sky) (body := body) (b := z.2) (x := x) (Z := z.1))
      (rwq6_6r hG (g := g) (sky := sky) (body := body) (b := z.2) (x := x) (Z := z.1))
      (rwq6_7r hG (g := g) (sky := sky) (body := body) (b := z.2) (x := x) (Z := z.1))
      (rwq6_8r hG (g := g) (sky := sky) (body := body) (b := z.2) (x := x) (Z := z.1))
      (rwq6_9r hG (g := g) (sky := sky) (body := body) (b := z.2) (x := x) (Z := z.1))
      (rwq6_10r hG (g := g) (sky := sky) (body := body) (b := z.2) (x := x) (Z := z.1))
      (rwq6_11r hG (g := g) (sky := sky) (body := body) (b := z.2) (x := x) (Z := z.1))
      (rwq6_12r hG (g := g) (sky := sky) (body := body) (b := z.2) (x := x) (Z := z.1))
      i)
    (fun z => rwq6_xr hG (g := g) (sky := sky) (body := body) (b := z.2) (x := x) (Z := z.1)) z0
theorem rwq7_r (g : Gs) (body : P2) (b : Bool) (x : X13) (Z : Mx) : RunsTo Tryz.prog 322 rwcRRRRRL (rwS7 g body b x Z) .normal (rwS8 g body b x Z (fun _ => 0)) := gRun_runs hG (rwq7 (F := F) (g := g) (body := body) (b := b) (x := x) (Z := Z))
theorem rwq8_r (g : Gs) (body : P2) (b : Bool) (x : X13) (Z : Mx) (m : (Nat → Int)) : RunsTo Tryz.prog 322 rwcRRRRRRLL (rwS8 g body b x Z m) .normal (rwS9 g body b x Z 0 m) := gRun_runs hG (rwq8 (F := F) (g := g) (body := body) (b := b) (x := x) (Z := Z) (m := m))
theorem rwq9_0r (g : Gs) (body : P2) (b : Bool) (x : X13) (Z : Mx) (m : (Nat → Int)) : RunsTo Tryz.prog 322 rwcRRRRRRLRBB (rwS9 g body b x Z 0 m) .normal (rwS9 g body ((rwF9 F Z 0 (m, b)).2) x Z 1 ((rwF9 F Z 0 (m, b)).1)) := gCut_runs hG (rwq9_0 (F := F) (g := g) (body := body) (b := b) (x := x) (Z := Z) (m := m)) rfl (rwS9_k ..) rfl
theorem rwq9_1r (g : Gs) (body : P2) (b : Bool) (x : X13) (Z : Mx) (m : (Nat → Int)) : RunsTo Tryz.prog 322 rwcRRRRRRLRBB (rwS9 g body b x Z 1 m) .normal (rwS9 g body ((rwF9 F Z 1 (m, b)).2) x Z 2 ((rwF9 F Z 1 (m, b)).1)) := gCut_runs hG (rwq9_1 (F := F) (g := g) (body := body) (b := b) (x := x) (Z := Z) (m := m)) rfl (rwS9_k ..) rfl
theorem rwq9_2r (g : Gs) (body : P2) (b : Bool) (x : X13) (Z : Mx) (m : (Nat → Int)) : RunsTo Tryz.prog 322 rwcRRRRRRLRBB (rwS9 g body b x Z 2 m) .normal (rwS9 g body ((rwF9 F Z 2 (m, b)).2) x Z 3 ((rwF9 F Z 2 (m, b)).1)) := gCut_runs hG (rwq9_2 (F := F) (g := g) (body := body) (b := b) (x := x) (Z := Z) (m := m)) rfl (rwS9_k ..) rfl
theorem rwq9_3r (g : Gs) (body : P2) (b : Bool) (x : X13) (Z : Mx) (m : (Nat → Int)) : RunsTo Tryz.prog 322 rwcRRRRRRLRBB (rwS9 g body b x Z 3 m) .normal (rwS9 g body ((rwF9 F Z 3 (m, b)).2) x Z 4 ((rwF9 F Z 3 (m, b)).1)) := gCut_runs hG (rwq9_3 (F := F) (g := g) (body := body) (b := b) (x := x) (Z := Z) (m := m)) rfl (rwS9_k ..) rfl
theorem rwq9_4r (g : Gs) (body : P2) (b : Bool) (x : X13) (Z : Mx) (m : (Nat → Int)) : RunsTo Tryz.prog 322 rwcRRRRRRLRBB (rwS9 g body b x Z 4 m) .normal (rwS9 g body ((rwF9 F Z 4 (m, b)).2) x Z 5 ((rwF9 F Z 4 (m, b)).1)) := gCut_runs hG (rwq9_4 (F := F) (g := g) (body := body) (b := b) (x := x) (Z := Z) (m := m)) rfl (rwS9_k ..) rfl
theorem rwq9_5r (g : Gs) (body : P2) (b : Bool) (x : X13) (Z : Mx) (m : (Nat → Int)) : RunsTo Tryz.prog 322 rwcRRRRRRLRBB (rwS9 g body b x Z 5 m) .normal (rwS9 g body ((rwF9 F Z 5 (m, b)).2) x Z 6 ((rwF9 F Z 5 (m, b)).1)) := gCut_runs hG (rwq9_5 (F := F) (g := g) (body := body) (b := b) (x := x) (Z := Z) (m := m)) rfl (rwS9_k ..) rfl
theorem rwq9_xr (g : Gs) (body : P2) (b : Bool) (x : X13) (Z : Mx) (m : (Nat → Int)) : RunsTo Tryz.prog 322 rwcRRRRRRLRBB (rwS9 g body b x Z 6 m) (.exit 4) (rwS10 g body b x Z m) := gCut_runs hG (rwq9_x (F := F) (g := g) (body := body) (b := b) (x := x) (Z := Z) (m := m)) rfl (rwS10_k ..) rfl
theorem rwq9_l (g : Gs) (body : P2) (x : X13) (Z : Mx) (z0 : (Nat → Int) × Bool) : RunsTo Tryz.prog 322 (.block 4 (.loop rwcRRRRRRLRBB)) (rwS9 g body z0.2 x Z 0 z0.1) .normal (rwS10 g body ((iterF (rwF9 F Z) 0 6 z0).2) x Z ((iterF (rwF9 F Z) 0 6 z0).1)) :=
  RunsTo.rounds (P := Tryz.prog) (N := 322) (c := rwcRRRRRRLRBB) (id := 4) 6 (fun i z => (rwS9 g body z.2 x Z (i : Nat) z.1)) (fun z => (rwS10 g body z.2 x Z z.1)) (rwF9 F Z)
    (fun i z => below6 (p := fun i => RunsTo Tryz.prog 322 rwcRRRRRRLRBB (rwS9 g body z.2 x Z (i : Nat) z.1) .normal (rwS9 g body ((rwF9 F Z i z).2) x Z (i + 1 : Nat) ((rwF9 F Z i z).1)))
      (rwq9_0r hG (g := g) (body := body) (b := z.2) (x := x) (Z := Z) (m := z.1))
      (rwq9_1r hG (g := g) (body := body) (b := z.2) (x := x) (Z := Z) (m := z.1))
      (rwq9_2r hG (g := g) (body := body) (b := z.2) (x := x) (Z := Z) (m := z.1))
      (rwq9_3r hG (g := g) (body := body) (b := z.2) (x := x) (Z := Z) (m := z.1))
      (rwq9_4r hG (g := g) (body := body) (b := z.2) (x := x) (Z := Z) (m := z.1))
      (rwq9_5r hG (g := g) (body := body) (b := z.2) (x := x) (Z := Z) (m := z.1))
      i)
    (fun z => rwq9_xr hG (g := g) (body := body) (b := z.2) (x := x) (Z := Z) (m := z.1)) z0
theorem rwq10_r (g : Gs) (body : P2) (b : Bool) (x : X13) (Z : Mx) (m : (Nat → Int)) : RunsTo Tryz.prog 322 rwcRRRRRRRL (rwS10 g body b x Z m) .normal (rwS11 g body ((F.ls b (x13of Z, R6.of m, ())).2) x m ((F.ls b (x13of Z, R6.of m, ())).1)) := gRun_runs hG (rwq10 (F := F) (g := g) (body := body) (b := b) (x := x) (Z := Z) (m := m))
theorem rwq11_r (g : Gs) (body : P2) (b : Bool) (x : X13) (m : (Nat → Int)) (d : X13) : RunsTo Tryz.prog 322 rwcRRRRRRRRL (rwS11 g body b x m d) .normal (rwS12 g body b x m d mx0) := gRun_runs hG (rwq11 (F := F) (g := g) (body := body) (b := b) (x := x) (m := m) (d := d))
theorem rwq12_r (g : Gs) (body : P2) (b : Bool) (x : X13) (m : (Nat → Int)) (d : X13) (P : Mx) : RunsTo Tryz.prog 322 rwcRRRRRRRRRL (rwS12 g body b x m d P) .normal (rwS13 g body b x m d P mx0) := gRun_runs hG (rwq12 (F := F) (g := g) (body := body) (b := b) (x := x) (m := m) (d := d) (P := P))
theorem rwq13_r (g : Gs) (body : P2) (b : Bool) (x : X13) (m : (Nat → Int)) (d : X13) (P : Mx) (Q : Mx) : RunsTo Tryz.prog 322 rwcRRRRRRRRRRLL (rwS13 g body b x m d P Q) .normal (rwS14 g body b x 0 m d P Q) := gRun_runs hG (rwq13 (F := F) (g := g) (body := body) (b := b) (x := x) (m := m) (d := d) (P := P) (Q := Q))
theorem rwq14_0r (g : Gs) (body : P2) (b : Bool) (x : X13) (m : (Nat → Int)) (d : X13) (P : Mx) (Q : Mx) : RunsTo Tryz.prog 322 rwcRRRRRRRRRRLRBB (rwS14 g body b x 0 m d P Q) .normal (rwS14 g body ((rwF14 F x d 0 (P, Q, b)).2.2) x 1 m d ((rwF14 F x d 0 (P, Q, b)).1) ((rwF14 F x d 0 (P, Q, b)).2.1)) := gCut_runs hG (rwq14_0 (F := F) (g := g) (body := body) (b := b) (x := x) (m := m) (d := d) (P := P) (Q := Q)) rfl (rwS14_k ..) rfl
theorem rwq14_1r (g : Gs) (body : P2) (b : Bool) (x : X13) (m : (Nat → Int)) (d : X13) (P : Mx) (Q : Mx) : RunsTo Tryz.prog 322 rwcRRRRRRRRRRLRBB (rwS14 g body b x 1 m d P Q) .normal (rwS14 g body ((rwF14 F x d 1 (P, Q, b)).2.2) x 2 m d ((rwF14 F x d 1 (P, Q, b)).1) ((rwF14 F x d 1 (P, Q, b)).2.1)) := gCut_runs hG (rwq14_1 (F := F) (g := g) (body := body) (b := b) (x := x) (m := m) (d := d) (P := P) (Q := Q)) rfl (rwS14_k ..) rfl
theorem rwq14_2r (g : Gs) (body : P2) (b : Bool) (x : X13) (m : (Nat → Int)) (d : X13) (P : Mx) (Q : Mx) : RunsTo Tryz.prog 322 rwcRRRRRRRRRRLRBB (rwS14 g body b x 2 m d P Q) .normal (rwS14 g body ((rwF14 F x d 2 (P, Q, b)).2.2) x 3 m d ((rwF14 F x d 2 (P, Q, b)).1) ((rwF14 F x d 2 (P, Q, b)).2.1)) := gCut_runs hG (rwq14_2 (F := F) (g := g) (body := body) (b := b) (x := x) (m := m) (d := d) (P := P) (Q := Q)) rfl (rwS14_k ..) rfl
theorem rwq14_3r (g : Gs) (body : P2) (b : Bool) (x : X13) (m : (Nat → Int)) (d : X13) (P : Mx) (Q : Mx) : RunsTo Tryz.prog 322 rwcRRRRRRRRRRLRBB (rwS14 g body b x 3 m d P Q) .normal (rwS14 g body ((rwF14 F x d 3 (P, Q, b)).2.2) x 4 m d ((rwF14 F x d 3 (P, Q, b)).1) ((rwF14 F x d 3 (P, Q, b)).2.1)) := gCut_runs hG (rwq14_3 (F := F) (g := g) (body := body) (b := b) (x := x) (m := m) (d := d) (P := P) (Q := Q)) rfl (rwS14_k ..) rfl
theorem rwq14_4r (g : Gs) (body : P2) (b : Bool) (x : X13) (m : (Nat → Int)) (d : X13) (P : Mx) (Q : Mx) : RunsTo Tryz.prog 322 rwcRRRRRRRRRRLRBB (rwS14 g body b x 4 m d P Q) .normal (rwS14 g body ((rwF14 F x d 4 (P, Q, b)).2.2) x 5 m d ((rwF14 F x d 4 (P, Q, b)).1) ((rwF14 F x d 4 (P, Q, b)).2.1)) := gCut_runs hG (rwq14_4 (F := F) (g := g) (body := body) (b := b) (x := x) (m := m) (d := d) (P := P) (Q := Q)) rfl (rwS14_k ..) rfl
theorem rwq14_5r (g : Gs) (body : P2) (b : Bool) (x : X13) (m : (Nat → Int)) (d : X13) (P : Mx) (Q : Mx) : RunsTo Tryz.prog 322 rwcRRRRRRRRRRLRBB (rwS14 g body b x 5 m d P Q) .normal (rwS14 g body ((rwF14 F x d 5 (P, Q, b)).2.2) x 6 m d ((rwF14 F x d 5 (P, Q, b)).1) ((rwF14 F x d 5 (P, Q, b)).2.1)) := gCut_runs hG (rwq14_5 (F := F) (g := g) (body := body) (b := b) (x := x) (m := m) (d := d) (P := P) (Q := Q)) rfl (rwS14_k ..) rfl
theorem rwq14_xr (g : Gs) (body : P2) (b : Bool) (x : X13) (m : (Nat → Int)) (d : X13) (P : Mx) (Q : Mx) : RunsTo Tryz.prog 322 rwcRRRRRRRRRRLRBB (rwS14 g body b x 6 m d P Q) (.exit 6) (rwS15 g body b m P Q) := gCut_runs hG (rwq14_x (F := F) (g := g) (body := body) (b := b) (x := x) (m := m) (d := d) (P := P) (Q := Q)) rfl (rwS15_k ..) rfl
theorem rwq14_l (g : Gs) (body : P2) (x : X13) (m : (Nat → Int)) (d : X13) (z0 : Mx × Mx × Bool) : RunsTo Tryz.prog 322 (.block 6 (.loop rwcRRRRRRRRRRLRBB)) (rwS14 g body z0.2.2 x 0 m d z0.1 z0.2.1) .normal (rwS15 g body ((iterF (rwF14 F x d) 0 6 z0).2.2) m ((iterF (rwF14 F x d) 0 6 z0).1) ((iterF (rwF14 F x d) 0 6 z0).2.1)) :=
  RunsTo.rounds (P := Tryz.prog) (N := 322) (c := rwcRRRRRRRRRRLRBB) (id := 6) 6 (fun i z => (rwS14 g body z.2.2 x (i : Nat) m d z.1 z.2.1)) (fun z => (rwS15 g body z.2.2 m z.1 z.2.1)) (rwF14 F x d)
    (fun i z => below6 (p := fun i => RunsTo Tryz.prog 322 rwcRRRRRRRRRRLRBB (rwS14 g body z.2.2 x (i : Nat) m d z.1 z.2.1) .normal (rwS14 g body ((rwF14 F x d i z).2.2) x (i + 1 : Nat) m d ((rwF14 F x d i z).1) ((rwF14 F x d i z).2.1)))
      (rwq14_0r hG (g := g) (body := body) (b := z.2.2) (x := x) (m := m) (d := d) (P := z.1) (Q := z.2.1))
      (rwq14_1r hG (g := g) (body := body) (b := z.2.2) (x := x) (m := m) (d := d) (P := z.1) (Q := z.2.1))
      (rwq14_2r hG (g := g) (body := body) (b := z.2.2) (x := x) (m := m) (d := d) (P := z.1) (Q := z.2.1))
      (rwq14_3r hG (g := g) (body := body) (b := z.2.2) (x := x) (m := m) (d := d) (P := z.1) (Q := z.2.1))
      (rwq14_4r hG (g := g) (body := body) (b := z.2.2) (x := x) (m := m) (d := d) (P := z.1) (Q := z.2.1))
      (rwq14_5r hG (g := g) (body := body) (b := z.2.2) (x := x) (m := m) (d := d) (P := z.1) (Q := z.2.1))
      i)
    (fun z => rwq14_xr hG (g := g) (body := body) (b := z.2.2) (x := x) (m := m) (d := d) (P := z.1) (Q := z.2.1)) z0
theorem rwq15_r (g : Gs) (body : P2) (b : Bool) (m : (Nat → Int)) (P : Mx) (Q : Mx) : RunsTo Tryz.prog 322 rwcRRRRRRRRRRRLL (rwS15 g body b m P Q) .normal (rwS16 g body b 0 m P Q) := gRun_runs hG (rwq15 (F := F) (g := g) (body := body) (b := b) (m := m) (P := P) (Q := Q))
theorem rwq16_0r (g : Gs) (body : P2) (b : Bool) (m : (Nat → Int)) (P : Mx) (Q : Mx) : RunsTo Tryz.prog 322 rwcRRRRRRRRRRRLRBB (rwS16 g body b 0 m P Q) .normal (rwS16 g body ((rwF16 F 0 (P, b)).2) 1 m ((rwF16 F 0 (P, b)).1) Q) := gCut_runs hG (rwq16_0 (F := F) (g := g) (body := body) (b := b) (m := m) (P := P) (Q := Q)) rfl (rwS16_k ..) rfl
theorem rwq16_1r (g : Gs) (body : P2) (b : Bool) (m : (Nat → Int)) (P : Mx) (Q : Mx) : RunsTo Tryz.prog 322 rwcRRRRRRRRRRRLRBB (rwS16 g body b 1 m P Q) .normal (rwS16 g body ((rwF16 F 1 (P, b)).2) 2 m ((rwF16 F 1 (P, b)).1) Q) := gCut_runs hG (rwq16_1 (F := F) (g := g) (body := body) (b := b) (m := m) (P := P) (Q := Q)) rfl (rwS16_k ..) rfl
theorem rwq16_2r (g : Gs) (body : P2) (b : Bool) (m : (Nat → Int)) (P : Mx) (Q : Mx) : RunsTo Tryz.prog 322 rwcRRRRRRRRRRRLRBB (rwS16 g body b 2 m P Q) .normal (rwS16 g body ((rwF16 F 2 (P, b)).2) 3 m ((rwF16 F 2 (P, b)).1) Q) := gCut_runs hG (rwq16_2 (F := F) (g := g) (body := body) (b := b) (m := m) (P := P) (Q := Q)) rfl (rwS16_k ..) rfl
theorem rwq16_xr (g : Gs) (body : P2) (b : Bool) (m : (Nat → Int)) (P : Mx) (Q : Mx) : RunsTo Tryz.prog 322 rwcRRRRRRRRRRRLRBB (rwS16 g body b 3 m P Q) (.exit 10) (rwS17 g body b m P Q) := gCut_runs hG (rwq16_x (F := F) (g := g) (body := body) (b := b) (m := m) (P := P) (Q := Q)) rfl (rwS17_k ..) rfl
theorem rwq16_l (g : Gs) (body : P2) (m : (Nat → Int)) (Q : Mx) (z0 : Mx × Bool) : RunsTo Tryz.prog 322 (.block 10 (.loop rwcRRRRRRRRRRRLRBB)) (rwS16 g body z0.2 0 m z0.1 Q) .normal (rwS17 g body ((iterF (rwF16 F) 0 3 z0).2) m ((iterF (rwF16 F) 0 3 z0).1) Q) :=
  RunsTo.rounds (P := Tryz.prog) (N := 322) (c := rwcRRRRRRRRRRRLRBB) (id := 10) 3 (fun i z => (rwS16 g body z.2 (i : Nat) m z.1 Q)) (fun z => (rwS17 g body z.2 m z.1 Q)) (rwF16 F)
    (fun i z => below3 (p := fun i => RunsTo Tryz.prog 322 rwcRRRRRRRRRRRLRBB (rwS16 g body z.2 (i : Nat) m z.1 Q) .normal (rwS16 g body ((rwF16 F i z).2) (i + 1 : Nat) m ((rwF16 F i z).1) Q))
      (rwq16_0r hG (g := g) (body := body) (b := z.2) (m := m) (P := z.1) (Q := Q))
      (rwq16_1r hG (g := g) (body := body) (b := z.2) (m := m) (P := z.1) (Q := Q))
      (rwq16_2r hG (g := g) (body := body) (b := z.2) (m := m) (P := z.1) (Q := Q))
      i)
    (fun z => rwq16_xr hG (g := g) (body := body) (b := z.2) (m := m) (P := z.1) (Q := Q)) z0
theorem rwq17_r (g : Gs) (body : P2) (b : Bool) (m : (Nat → Int)) (P : Mx) (Q : Mx) : RunsTo Tryz.prog 322 rwcRRRRRRRRRRRRL (rwS17 g body b m P Q) .normal (rwS18 g b m P Q ((joinV body.a body.b).at)) := gRun_runs hG (rwq17 (F := F) (g := g) (body := body) (b := b) (m := m) (P := P) (Q := Q))
theorem rwq18_r (g : Gs) (b : Bool) (m : (Nat → Int)) (P : Mx) (Q : Mx) (Y : (Nat → Int)) : RunsTo Tryz.prog 322 rwcRRRRRRRRRRRRRLL (rwS18 g b m P Q Y) .normal (rwS19 g b 0 m P Q Y) := gRun_runs hG (rwq18 (F := F) (g := g) (b := b) (m := m) (P := P) (Q := Q) (Y := Y))
theorem rwq19_0r (g : Gs) (b : Bool) (m : (Nat → Int)) (P : Mx) (Q : Mx) (Y : (Nat → Int)) : RunsTo Tryz.prog 322 rwcRRRRRRRRRRRRRLRBB (rwS19 g b 0 m P Q Y) .normal (rwS19 g ((rwF19 F m 0 (Y, b)).2) 1 m P Q ((rwF19 F m 0 (Y, b)).1)) := gCut_runs hG (rwq19_0 (F := F) (g := g) (b := b) (m := m) (P := P) (Q := Q) (Y := Y)) rfl (rwS19_k ..) rfl
theorem rwq19_1r (g : Gs) (b : Bool) (m : (Nat → Int)) (P : Mx) (Q : Mx) (Y : (Nat → Int)) : RunsTo Tryz.prog 322 rwcRRRRRRRRRRRRRLRBB (rwS19 g b 1 m P Q Y) .normal (rwS19 g ((rwF19 F m 1 (Y, b)).2) 2 m P Q ((rwF19 F m 1 (Y, b)).1)) := gCut_runs hG (rwq19_1 (F := F) (g := g) (b := b) (m := m) (P := P) (Q := Q) (Y := Y)) rfl (rwS19_k ..) rfl
theorem rwq19_2r (g : Gs) (b : Bool) (m : (Nat → Int)) (P : Mx) (Q : Mx) (Y : (Nat → Int)) : RunsTo Tryz.prog 322 rwcRRRRRRRRRRRRRLRBB (rwS19 g b 2 m P Q Y) .normal (rwS19 g ((rwF19 F m 2 (Y, b)).2) 3 m P Q ((rwF19 F m 2 (Y, b)).1)) := gCut_runs hG (rwq19_2 (F := F) (g := g) (b := b) (m := m) (P := P) (Q := Q) (Y := Y)) rfl (rwS19_k ..) rfl
theorem rwq19_3r (g : Gs) (b : Bool) (m : (Nat → Int)) (P : Mx) (Q : Mx) (Y : (Nat → Int)) : RunsTo Tryz.prog 322 rwcRRRRRRRRRRRRRLRBB (rwS19 g b 3 m P Q Y) .normal (rwS19 g ((rwF19 F m 3 (Y, b)).2) 4 m P Q ((rwF19 F m 3 (Y, b)).1)) := gCut_runs hG (rwq19_3 (F := F) (g := g) (b := b) (m := m) (P := P) (Q := Q) (Y := Y)) rfl (rwS19_k ..) rfl
theorem rwq19_4r (g : Gs) (b : Bool) (m : (Nat → Int)) (P : Mx) (Q : Mx) (Y : (Nat → Int)) : RunsTo Tryz.prog 322 rwcRRRRRRRRRRRRRLRBB (rwS19 g b 4 m P Q Y) .normal (rwS19 g ((rwF19 F m 4 (Y, b)).2) 5 m P Q ((rwF19 F m 4 (Y, b)).1)) := gCut_runs hG (rwq19_4 (F := F) (g := g) (b := b) (m := m) (P := P) (Q := Q) (Y := Y)) rfl (rwS19_k ..) rfl
theorem rwq19_5r (g : Gs) (b : Bool) (m : (Nat → Int)) (P : Mx) (Q : Mx) (Y : (Nat → Int)) : RunsTo Tryz.prog 322 rwcRRRRRRRRRRRRRLRBB (rwS19 g b 5 m P Q Y) .normal (rwS19 g ((rwF19 F m 5 (Y, b)).2) 6 m P Q ((rwF19 F m 5 (Y, b)).1)) := gCut_runs hG (rwq19_5 (F := F) (g := g) (b := b) (m := m) (P := P) (Q := Q) (Y := Y)) rfl (rwS19_k ..) rfl
theorem rwq19_xr (g : Gs) (b : Bool) (m : (Nat → Int)) (P : Mx) (Q : Mx) (Y : (Nat → Int)) : RunsTo Tryz.prog 322 rwcRRRRRRRRRRRRRLRBB (rwS19 g b 6 m P Q Y) (.exit 12) (rwS20 g b P Q Y) := gCut_runs hG (rwq19_x (F := F) (g := g) (b := b) (m := m) (P := P) (Q := Q) (Y := Y)) rfl (rwS20_k ..) rfl
theorem rwq19_l (g : Gs) (m : (Nat → Int)) (P : Mx) (Q : Mx) (z0 : (Nat → Int) × Bool) : RunsTo Tryz.prog 322 (.block 12 (.loop rwcRRRRRRRRRRRRRLRBB)) (rwS19 g z0.2 0 m P Q z0.1) .normal (rwS20 g ((iterF (rwF19 F m) 0 6 z0).2) P Q ((iterF (rwF19 F m) 0 6 z0).1)) :=
  RunsTo.rounds (P := Tryz.prog) (N := 322) (c := rwcRRRRRRRRRRRRRLRBB) (id := 12) 6 (fun i z => (rwS19 g z.2 (i : Nat) m P Q z.1)) (fun z => (rwS20 g z.2 P Q z.1)) (rwF19 F m)
    (fun i z => below6 (p := fun i => RunsTo Tryz.prog 322 rwcRRRRRRRRRRRRRLRBB (rwS19 g z.2 (i : Nat) m P Q z.1) .normal (rwS19 g ((rwF19 F m i z).2) (i + 1 : Nat) m P Q ((rwF19 F m i z).1)))
      (rwq19_0r hG (g := g) (b := z.2) (m := m) (P := P) (Q := Q) (Y := z.1))
      (rwq19_1r hG (g := g) (b := z.2) (m := m) (P := P) (Q := Q) (Y := z.1))
      (rwq19_2r hG (g := g) (b := z.2) (m := m) (P := P) (Q := Q) (Y := z.1))
      (rwq19_3r hG (g := g) (b := z.2) (m := m) (P := P) (Q := Q) (Y := z.1))
      (rwq19_4r hG (g := g) (b := z.2) (m := m) (P := P) (Q := Q) (Y := z.1))
      (rwq19_5r hG (g := g) (b := z.2) (m := m) (P := P) (Q := Q) (Y := z.1))
      i)
    (fun z => rwq19_xr hG (g := g) (b := z.2) (m := m) (P := P) (Q := Q) (Y := z.1)) z0
theorem rwq20_r (g : Gs) (b : Bool) (P : Mx) (Q : Mx) (Y : (Nat → Int)) : RunsTo Tryz.prog 322 rwcRRRRRRRRRRRRRRL (rwS20 g b P Q Y) .normal (rwS21 g ((F.rt b (M6.of P, 6, ())).2) Q Y ((F.rt b (M6.of P, 6, ())).1)) := gRun_runs hG (rwq20 (F := F) (g := g) (b := b) (P := P) (Q := Q) (Y := Y))
theorem rwq21_r (g : Gs) (b : Bool) (Q : Mx) (Y : (Nat → Int)) (l : M6) : RunsTo Tryz.prog 322 rwcRRRRRRRRRRRRRRRL (rwS21 g b Q Y l) .normal (rwS22 g ((F.so b (l, R6.of Y, 6, ())).2) Q Y l ((F.so b (l, R6.of Y, 6, ())).1)) := gRun_runs hG (rwq21 (F := F) (g := g) (b := b) (Q := Q) (Y := Y) (l := l))
theorem rwq22_r (g : Gs) (b : Bool) (Q : Mx) (Y : (Nat → Int)) (l : M6) (u : R6) : RunsTo Tryz.prog 322 rwcRRRRRRRRRRRRRRRRL (rwS22 g b Q Y l u) .normal (rwS23 g b Q Y l u 0) := gRun_runs hG (rwq22 (F := F) (g := g) (b := b) (Q := Q) (Y := Y) (l := l) (u := u))
theorem rwq23_r (g : Gs) (b : Bool) (Q : Mx) (Y : (Nat → Int)) (l : M6) (u : R6) (chi : Int) : RunsTo Tryz.prog 322 rwcRRRRRRRRRRRRRRRRRLL (rwS23 g b Q Y l u chi) .normal (rwS24 g b 0 Q Y l u chi) := gRun_runs hG (rwq23 (F := F) (g := g) (b := b) (Q := Q) (Y := Y) (l := l) (u := u) (chi := chi))
theorem rwq24_0r (g : Gs) (b : Bool) (Q : Mx) (Y : (Nat → Int)) (l : M6) (u : R6) (chi : Int) : RunsTo Tryz.prog 322 rwcRRRRRRRRRRRRRRRRRLRBB (rwS24 g b 0 Q Y l u chi) .normal (rwS24 g ((rwF24 F Y u 0 (chi, b)).2) 1 Q Y l u ((rwF24 F Y u 0 (chi, b)).1)) := gCut_runs hG (rwq24_0 (F := F) (g := g) (b := b) (Q := Q) (Y := Y) (l := l) (u := u) (chi := chi)) rfl (rwS24_k ..) rfl
theorem rwq24_1r (g : Gs) (b : Bool) (Q : Mx) (Y : (Nat → Int)) (l : M6) (u : R6) (chi : Int) : RunsTo Tryz.prog 322 rwcRRRRRRRRRRRRRRRRRLRBB (rwS24 g b 1 Q Y l u chi) .normal (rwS24 g ((rwF24 F Y u 1 (chi, b)).2) 2 Q Y l u ((rwF24 F Y u 1 (chi, b)).1)) := gCut_runs hG (rwq24_1 (F := F) (g := g) (b := b) (Q := Q) (Y := Y) (l := l) (u := u) (chi := chi)) rfl (rwS24_k ..) rfl
theorem rwq24_2r (g : Gs) (b : Bool) (Q : Mx) (Y : (Nat → Int)) (l : M6) (u : R6) (chi : Int) : RunsTo Tryz.prog 322 rwcRRRRRRRRRRRRRRRRRLRBB (rwS24 g b 2 Q Y l u chi) .normal (rwS24 g ((rwF24 F Y u 2 (chi, b)).2) 3 Q Y l u ((rwF24 F Y u 2 (chi, b)).1)) := gCut_runs hG (rwq24_2 (F := F) (g := g) (b := b) (Q := Q) (Y := Y) (l := l) (u := u) (chi := chi)) rfl (rwS24_k ..) rfl
theorem rwq24_3r (g : Gs) (b : Bool) (Q : Mx) (Y : (Nat → Int)) (l : M6) (u : R6) (chi : Int) : RunsTo Tryz.prog 322 rwcRRRRRRRRRRRRRRRRRLRBB (rwS24 g b 3 Q Y l u chi) .normal (rwS24 g ((rwF24 F Y u 3 (chi, b)).2) 4 Q Y l u ((rwF24 F Y u 3 (chi, b)).1)) := gCut_runs hG (rwq24_3 (F := F) (g := g) (b := b) (Q := Q) (Y := Y) (l := l) (u := u) (chi := chi)) rfl (rwS24_k ..) rfl
theorem rwq24_4r (g : Gs) (b : Bool) (Q : Mx) (Y : (Nat → Int)) (l : M6) (u : R6) (chi : Int) : RunsTo Tryz.prog 322 rwcRRRRRRRRRRRRRRRRRLRBB (rwS24 g b 4 Q Y l u chi) .normal (rwS24 g ((rwF24 F Y u 4 (chi, b)).2) 5 Q Y l u ((rwF24 F Y u 4 (chi, b)).1)) := gCut_runs hG (rwq24_4 (F := F) (g := g) (b := b) (Q := Q) (Y := Y) (l := l) (u := u) (chi := chi)) rfl (rwS24_k ..) rfl
theorem rwq24_5r (g : Gs) (b : Bool) (Q : Mx) (Y : (Nat → Int)) (l : M6) (u : R6) (chi : Int) : RunsTo Tryz.prog 322 rwcRRRRRRRRRRRRRRRRRLRBB (rwS24 g b 5 Q Y l u chi) .normal (rwS24 g ((rwF24 F Y u 5 (chi, b)).2) 6 Q Y l u ((rwF24 F Y u 5 (chi, b)).1)) := gCut_runs hG (rwq24_5 (F := F) (g := g) (b := b) (Q := Q) (Y := Y) (l := l) (u := u) (chi := chi)) rfl (rwS24_k ..) rfl
theorem rwq24_xr (g : Gs) (b : Bool) (Q : Mx) (Y : (Nat → Int)) (l : M6) (u : R6) (chi : Int) : RunsTo Tryz.prog 322 rwcRRRRRRRRRRRRRRRRRLRBB (rwS24 g b 6 Q Y l u chi) (.exit 14) (rwS25 g b Q Y l chi) := gCut_runs hG (rwq24_x (F := F) (g := g) (b := b) (Q := Q) (Y := Y) (l := l) (u := u) (chi := chi)) rfl (rwS25_k ..) rfl
theorem rwq24_l (g : Gs) (Q : Mx) (Y : (Nat → Int)) (l : M6) (u : R6) (z0 : Int × Bool) : RunsTo Tryz.prog 322 (.block 14 (.loop rwcRRRRRRRRRRRRRRRRRLRBB)) (rwS24 g z0.2 0 Q Y l u z0.1) .normal (rwS25 g ((iterF (rwF24 F Y u) 0 6 z0).2) Q Y l ((iterF (rwF24 F Y u) 0 6 z0).1)) :=
  RunsTo.rounds (P := Tryz.prog) (N := 322) (c := rwcRRRRRRRRRRRRRRRRRLRBB) (id := 14) 6 (fun i z => (rwS24 g z.2 (i : Nat) Q Y l u z.1)) (fun z => (rwS25 g z.2 Q Y l z.1)) (rwF24 F Y u)
    (fun i z => below6 (p := fun i => RunsTo Tryz.prog 322 rwcRRRRRRRRRRRRRRRRRLRBB (rwS24 g z.2 (i : Nat) Q Y l u z.1) .normal (rwS24 g ((rwF24 F Y u i z).2) (i + 1 : Nat) Q Y l u ((rwF24 F Y u i z).1)))
      (rwq24_0r hG (g := g) (b := z.2) (Q := Q) (Y := Y) (l := l) (u := u) (chi := z.1))
      (rwq24_1r hG (g := g) (b := z.2) (Q := Q) (Y := Y) (l := l) (u := u) (chi := z.1))
      (rwq24_2r hG (g := g) (b := z.2) (Q := Q) (Y := Y) (l := l) (u := u) (chi := z.1))
      (rwq24_3r hG (g := g) (b := z.2) (Q := Q) (Y := Y) (l := l) (u := u) (chi := z.1))
      (rwq24_4r hG (g := g) (b := z.2) (Q := Q) (Y := Y) (l := l) (u := u) (chi := z.1))
      (rwq24_5r hG (g := g) (b := z.2) (Q := Q) (Y := Y) (l := l) (u := u) (chi := z.1))
      i)
    (fun z => rwq24_xr hG (g := g) (b := z.2) (Q := Q) (Y := Y) (l := l) (u := u) (chi := z.1)) z0
theorem rwq25t_r (g : Gs) (b : Bool) (Q : Mx) (Y : (Nat → Int)) (l : M6) (chi : Int) (hc : tst b = true) : RunsTo Tryz.prog 322 rwcRRRRRRRRRRRRRRRRRRL (rwS25 g b Q Y l chi) .ret (rwE b Gs.zero 0 false (4096 + 13 * 2 ^ 180)) := gRun_runs hG ((rwq25t (F := F) (g := g) (b := b) (Q := Q) (Y := Y) (l := l) (chi := chi)).trans (by rw [show b = true from hc]; rfl))
theorem rwq25f_r (g : Gs) (b : Bool) (Q : Mx) (Y : (Nat → Int)) (l : M6) (chi : Int) (hc : tst b = false) : RunsTo Tryz.prog 322 rwcRRRRRRRRRRRRRRRRRRL (rwS25 g b Q Y l chi) .normal (rwS27 g b Q Y l chi) := gRun_runs hG ((rwq25f (F := F) (g := g) (b := b) (Q := Q) (Y := Y) (l := l) (chi := chi)).trans (by rw [show b = false from hc]; rfl))
theorem rwq26t_r (g : Gs) (b : Bool) (Q : Mx) (Y : (Nat → Int)) (l : M6) (chi : Int) (hc : tst (decide (chi > 32985348833280)) = true) : RunsTo Tryz.prog 322 rwcRRRRRRRRRRRRRRRRRRRL (rwS27 g b Q Y l chi) .ret (rwE b g chi false (4096 + 13 * 2 ^ 180)) := gRun_runs hG ((rwq26t (F := F) (g := g) (b := b) (Q := Q) (Y := Y) (l := l) (chi := chi)).trans (by rw [show (decide (chi > 32985348833280)) = true from hc]; rfl))
theorem rwq26f_r (g : Gs) (b : Bool) (Q : Mx) (Y : (Nat → Int)) (l : M6) (chi : Int) (hc : tst (decide (chi > 32985348833280)) = false) : RunsTo Tryz.prog 322 rwcRRRRRRRRRRRRRRRRRRRL (rwS27 g b Q Y l chi) .normal (rwS30 g b Q Y l chi) := gRun_runs hG ((rwq26f (F := F) (g := g) (b := b) (Q := Q) (Y := Y) (l := l) (chi := chi)).trans (by rw [show (decide (chi > 32985348833280)) = false from hc]; rfl))
theorem rwq27_r (g : Gs) (b : Bool) (Q : Mx) (Y : (Nat → Int)) (l : M6) (chi : Int) : RunsTo Tryz.prog 322 rwcRRRRRRRRRRRRRRRRRRRRL (rwS30 g b Q Y l chi) .normal (rwS32 g b Q Y l chi mx0) := gRun_runs hG (rwq27 (F := F) (g := g) (b := b) (Q := Q) (Y := Y) (l := l) (chi := chi))
theorem rwq28_r (g : Gs) (b : Bool) (Q : Mx) (Y : (Nat → Int)) (l : M6) (chi : Int) (K : Mx) : RunsTo Tryz.prog 322 rwcRRRRRRRRRRRRRRRRRRRRRLL (rwS32 g b Q Y l chi K) .normal (rwS33 g b 0 Q Y l chi K) := gRun_runs hG (rwq28 (F := F) (g := g) (b := b) (Q := Q) (Y := Y) (l := l) (chi := chi) (K := K))
theorem rwq29_0r (g : Gs) (b : Bool) (Q : Mx) (Y : (Nat → Int)) (l : M6) (chi : Int) (K : Mx) : RunsTo Tryz.prog 322 rwcRRRRRRRRRRRRRRRRRRRRRLRBB (rwS33 g b 0 Q Y l chi K) .normal (rwS33 g ((rwF29 F Q l 0 (K, b)).2) 1 Q Y l chi ((rwF29 F Q l 0 (K, b)).1)) := gCut_runs hG (rwq29_0 (F := F) (g := g) (b := b) (Q := Q) (Y := Y) (l := l) (chi := chi) (K := K)) rfl (rwS33_k ..) rfl
theorem rwq29_1r (g : Gs) (b : Bool) (Q : Mx) (Y : (Nat → Int)) (l : M6) (chi : Int) (K : Mx) : RunsTo Tryz.prog 322 rwcRRRRRRRRRRRRRRRRRRRRRLRBB (rwS33 g b 1 Q Y l chi K) .normal (rwS33 g ((rwF29 F Q l 1 (K, b)).2) 2 Q Y l chi ((rwF29 F Q l 1 (K, b)).1)) := gCut_runs hG (rwq29_1 (F := F) (g := g) (b := b) (Q := Q) (Y := Y) (l := l) (chi := chi) (K := K)) rfl (rwS33_k ..) rfl
theorem rwq29_2r (g : Gs) (b : Bool) (Q : Mx) (Y : (Nat → Int)) (l : M6) (chi : Int) (K : Mx) : RunsTo Tryz.prog 322 rwcRRRRRRRRRRRRRRRRRRRRRLRBB (rwS33 g b 2 Q Y l chi K) .normal (rwS33 g ((rwF29 F Q l 2 (K, b)).2) 3 Q Y l chi ((rwF29 F Q l 2 (K, b)).1)) := gCut_runs hG (rwq29_2 (F := F) (g := g) (b := b) (Q := Q) (Y := Y) (l := l) (chi := chi) (K := K)) rfl (rwS33_k ..) rfl
theorem rwq29_3r (g : Gs) (b : Bool) (Q : Mx) (Y : (Nat → Int)) (l : M6) (chi : Int) (K : Mx) : RunsTo Tryz.prog 322 rwcRRRRRRRRRRRRRRRRRRRRRLRBB (rwS33 g b 3 Q Y l chi K) .normal (rwS33 g ((rwF29 F Q l 3 (K, b)).2) 4 Q Y l chi ((rwF29 F Q l 3 (K, b)).1)) := gCut_runs hG (rwq29_3 (F := F) (g := g) (b := b) (Q := Q) (Y := Y) (l := l) (chi := chi) (K := K)) rfl (rwS33_k ..) rfl
theorem rwq29_4r (g : Gs) (b : Bool) (Q : Mx) (Y : (Nat → Int)) (l : M6) (chi : Int) (K : Mx) : RunsTo Tryz.prog 322 rwcRRRRRRRRRRRRRRRRRRRRRLRBB (rwS33 g b 4 Q Y l chi K) .normal (rwS33 g ((rwF29 F Q l 4 (K, b)).2) 5 Q Y l chi ((rwF29 F Q l 4 (K, b)).1)) := gCut_runs hG (rwq29_4 (F := F) (g := g) (b := b) (Q := Q) (Y := Y) (l := l) (chi := chi) (K := K)) rfl (rwS33_k ..) rfl
theorem rwq29_5r (g : Gs) (b : Bool) (Q : Mx) (Y : (Nat → Int)) (l : M6) (chi : Int) (K : Mx) : RunsTo Tryz.prog 322 rwcRRRRRRRRRRRRRRRRRRRRRLRBB (rwS33 g b 5 Q Y l chi K) .normal (rwS33 g ((rwF29 F Q l 5 (K, b)).2) 6 Q Y l chi ((rwF29 F Q l 5 (K, b)).1)) := gCut_runs hG (rwq29_5 (F := F) (g := g) (b := b) (Q := Q) (Y := Y) (l := l) (chi := chi) (K := K)) rfl (rwS33_k ..) rfl
theorem rwq29_xr (g : Gs) (b : Bool) (Q : Mx) (Y : (Nat → Int)) (l : M6) (chi : Int) (K : Mx) : RunsTo Tryz.prog 322 rwcRRRRRRRRRRRRRRRRRRRRRLRBB (rwS33 g b 6 Q Y l chi K) (.exit 16) (rwS34 g b Q Y chi K) := gCut_runs hG (rwq29_x (F := F) (g := g) (b := b) (Q := Q) (Y := Y) (l := l) (chi := chi) (K := K)) rfl (rwS34_k ..) rfl
theorem rwq29_l (g : Gs) (Q : Mx) (Y : (Nat → Int)) (l : M6) (chi : Int) (z0 : Mx × Bool) : RunsTo Tryz.prog 322 (.block 16 (.loop rwcRRRRRRRRRRRRRRRRRRRRRLRBB)) (rwS33 g z0.2 0 Q Y l chi z0.1) .normal (rwS34 g ((iterF (rwF29 F Q l) 0 6 z0).2) Q Y chi ((iterF (rwF29 F Q l) 0 6 z0).1)) :=
  RunsTo.rounds (P := Tryz.prog) (N := 322) (c := rwcRRRRRRRRRRRRRRRRRRRRRLRBB) (id := 16) 6 (fun i z => (rwS33 g z.2 (i : Nat) Q Y l chi z.1)) (fun z => (rwS34 g z.2 Q Y chi z.1)) (rwF29 F Q l)
    (fun i z => below6 (p := fun i => RunsTo Tryz.prog 322 rwcRRRRRRRRRRRRRRRRRRRRRLRBB (rwS33 g z.2 (i : Nat) Q Y l chi z.1) .normal (rwS33 g ((rwF29 F Q l i z).2) (i + 1 : Nat) Q Y l chi ((rwF29 F Q l i z).1)))
      (rwq29_0r hG (g := g) (b := z.2) (Q := Q) (Y := Y) (l := l) (chi := chi) (K := z.1))
      (rwq29_1r hG (g := g) (b := z.2) (Q := Q) (Y := Y) (l := l) (chi := chi) (K := z.1))
      (rwq29_2r hG (g := g) (b := z.2) (Q := Q) (Y := Y) (l := l) (chi := chi) (K := z.1))
      (rwq29_3r hG (g := g) (b := z.2) (Q := Q) (Y := Y) (l := l) (chi := chi) (K := z.1))
      (rwq29_4r hG (g := g) (b := z.2) (Q := Q) (Y := Y) (l := l) (chi := chi) (K := z.1))
      (rwq29_5r hG (g := g) (b := z.2) (Q := Q) (Y := Y) (l := l) (chi := chi) (K := z.1))
      i)
    (fun z => rwq29_xr hG (g := g) (b := z.2) (Q := Q) (Y := Y) (l := l) (chi := chi) (K := z.1)) z0
theorem rwq30_r (g : Gs) (b : Bool) (Q : Mx) (Y : (Nat → Int)) (chi : Int) (K : Mx) : RunsTo Tryz.prog 322 rwcRRRRRRRRRRRRRRRRRRRRRRL (rwS34 g b Q Y chi K) .normal (rwS35 g ((F.ap b (M6.of K, R6.of Y, 6, ())).2) Q chi K ((F.ap b (M6.of K, R6.of Y, 6, ())).1)) := gRun_runs hG (rwq30 (F := F) (g := g) (b := b) (Q := Q) (Y := Y) (chi := chi) (K := K))
theorem rwq31_r (g : Gs) (b : Bool) (Q : Mx) (chi : Int) (K : Mx) (by_ : R6) : RunsTo Tryz.prog 322 rwcRRRRRRRRRRRRRRRRRRRRRRRL (rwS35 g b Q chi K by_) .normal (rwS36 g b Q chi K by_ mx0) := gRun_runs hG (rwq31 (F := F) (g := g) (b := b) (Q := Q) (chi := chi) (K := K) (by_ := by_))
theorem rwq32_r (g : Gs) (b : Bool) (Q : Mx) (chi : Int) (K : Mx) (by_ : R6) (T : Mx) : RunsTo Tryz.prog 322 rwcRRRRRRRRRRRRRRRRRRRRRRRRLL (rwS36 g b Q chi K by_ T) .normal (rwS37 g b 0 Q chi K by_ T) := gRun_runs hG (rwq32 (F := F) (g := g) (b := b) (Q := Q) (chi := chi) (K := K) (by_ := by_) (T := T))
theorem rwq33_h0r (g : Gs) (b : Bool) (Q : Mx) (chi : Int) (K : Mx) (by_ : R6) (T : Mx) : RunsTo Tryz.prog 322 rwcRRRRRRRRRRRRRRRRRRRRRRRRLRBBL (rwS37 g b 0 Q chi K by_ T) .normal (rwS37 g b 0 Q chi K by_ T) := gCut_runs hG (rwq33_h0 (F := F) (g := g) (b := b) (Q := Q) (chi := chi) (K := K) (by_ := by_) (T := T)) rfl (rwS37_k ..) rfl
theorem rwq33_j0r (g : Gs) (b : Bool) (Q : Mx) (chi : Int) (K : Mx) (by_ : R6) (T : Mx) : RunsTo Tryz.prog 322 rwcRRRRRRRRRRRRRRRRRRRRRRRRLRBBRLBL (rwS37 g b 0 Q chi K by_ T) .normal (rwS38 g b 0 0 Q chi K by_ T) := gCut_runs hG (rwq33_j0 (F := F) (g := g) (b := b) (Q := Q) (chi := chi) (K := K) (by_ := by_) (T := T)) rfl (rwS38_k ..) rfl
theorem rwq33_p0r (g : Gs) (b : Bool) (Q : Mx) (chi : Int) (K : Mx) (by_ : R6) (T : Mx) : RunsTo Tryz.prog 322 rwcRRRRRRRRRRRRRRRRRRRRRRRRLRBBRR (rwS37 g b 0 Q chi K by_ T) .normal (rwS37 g b 1 Q chi K by_ T) := gCut_runs hG (rwq33_p0 (F := F) (g := g) (b := b) (Q := Q) (chi := chi) (K := K) (by_ := by_) (T := T)) rfl (rwS37_k ..) rfl
theorem rwq33_0_0r (g : Gs) (b : Bool) (Q : Mx) (chi : Int) (K : Mx) (by_ : R6) (T : Mx) : RunsTo Tryz.prog 322 rwcRRRRRRRRRRRRRRRRRRRRRRRRLRBBRLBRBB (rwS38 g b 0 0 Q chi K by_ T) .normal (rwS38 g ((rwG33 F g Q K 0 0 (T, b)).2) 0 1 Q chi K by_ ((rwG33 F g Q K 0 0 (T, b)).1)) := gCut_runs hG (rwq33_0_0 (F := F) (g := g) (b := b) (Q := Q) (chi := chi) (K := K) (by_ := by_) (T := T)) rfl (rwS38_k ..) rfl
theorem rwq33_0_1r (g : Gs) (b : Bool) (Q : Mx) (chi : Int) (K : Mx) (by_ : R6) (T : Mx) : RunsTo Tryz.prog 322 rwcRRRRRRRRRRRRRRRRRRRRRRRRLRBBRLBRBB (rwS38 g b 0 1 Q chi K by_ T) .normal (rwS38 g ((rwG33 F g Q K 0 1 (T, b)).2) 0 2 Q chi K by_ ((rwG33 F g Q K 0 1 (T, b)).1)) := gCut_runs hG (rwq33_0_1 (F := F) (g := g) (b := b) (Q := Q) (chi := chi) (K := K) (by_ := by_) (T := T)) rfl (rwS38_k ..) rfl
theorem rwq33_0_2r (g : Gs) (b : Bool) (Q : Mx) (chi : Int) (K : Mx) (by_ : R6) (T : Mx) : RunsTo Tryz.prog 322 rwcRRRRRRRRRRRRRRRRRRRRRRRRLRBBRLBRBB (rwS38 g b 0 2 Q chi K by_ T) .normal (rwS38 g ((rwG33 F g Q K 0 2 (T, b)).2) 0 3 Q chi K by_ ((rwG33 F g Q K 0 2 (T, b)).1)) := gCut_runs hG (rwq33_0_2 (F := F) (g := g) (b := b) (Q := Q) (chi := chi) (K := K) (by_ := by_) (T := T)) rfl (rwS38_k ..) rfl
theorem rwq33_0_3r (g : Gs) (b : Bool) (Q : Mx) (chi : Int) (K : Mx) (by_ : R6) (T : Mx) : RunsTo Tryz.prog 322 rwcRRRRRRRRRRRRRRRRRRRRRRRRLRBBRLBRBB (rwS38 g b 0 3 Q chi K by_ T) .normal (rwS38 g ((rwG33 F g Q K 0 3 (T, b)).2) 0 4 Q chi K by_ ((rwG33 F g Q K 0 3 (T, b)).1)) := gCut_runs hG (rwq33_0_3 (F := F) (g := g) (b := b) (Q := Q) (chi := chi) (K := K) (by_ := by_) (T := T)) rfl (rwS38_k ..) rfl
theorem rwq33_0_4r (g : Gs) (b : Bool) (Q : Mx) (chi : Int) (K : Mx) (by_ : R6) (T : Mx) : RunsTo Tryz.prog 322 rwcRRRRRRRRRRRRRRRRRRRRRRRRLRBBRLBRBB (rwS38 g b 0 4 Q chi K by_ T) .normal (rwS38 g ((rwG33 F g Q K 0 4 (T, b)).2) 0 5 Q chi K by_ ((rwG33 F g Q K 0 4 (T, b)).1)) := gCut_runs hG (rwq33_0_4 (F := F) (g := g) (b := b) (Q := Q) (chi := chi) (K := K) (by_ := by_) (T := T)) rfl (rwS38_k ..) rfl
theorem rwq33_0_5r (g : Gs) (b : Bool) (Q : Mx) (chi : Int) (K : Mx) (by_ : R6) (T : Mx) : RunsTo Tryz.prog 322 rwcRRRRRRRRRRRRRRRRRRRRRRRRLRBBRLBRBB (rwS38 g b 0 5 Q chi K by_ T) .normal (rwS38 g ((rwG33 F g Q K 0 5 (T, b)).2) 0 6 Q chi K by_ ((rwG33 F g Q K 0 5 (T, b)).1)) := gCut_runs hG (rwq33_0_5 (F := F) (g := g) (b := b) (Q := Q) (chi := chi) (K := K) (by_ := by_) (T := T)) rfl (rwS38_k ..) rfl
theorem rwq33_e0r (g : Gs) (b : Bool) (Q : Mx) (chi : Int) (K : Mx) (by_ : R6) (T : Mx) : RunsTo Tryz.prog 322 rwcRRRRRRRRRRRRRRRRRRRRRRRRLRBBRLBRBB (rwS38 g b 0 6 Q chi K by_ T) (.exit 20) (rwS37 g b 0 Q chi K by_ T) := gCut_runs hG (rwq33_e0 (F := F) (g := g) (b := b) (Q := Q) (chi := chi) (K := K) (by_ := by_) (T := T)) rfl (rwS37_k ..) rfl
theorem rwq33_i0 (g : Gs) (Q : Mx) (chi : Int) (K : Mx) (by_ : R6) (z0 : Mx × Bool) : RunsTo Tryz.prog 322 (.block 20 (.loop rwcRRRRRRRRRRRRRRRRRRRRRRRRLRBBRLBRBB)) (rwS38 g z0.2 0 0 Q chi K by_ z0.1) .normal (rwS37 g ((iterF (rwG33 F g Q K 0) 0 6 z0).2) 0 Q chi K by_ ((iterF (rwG33 F g Q K 0) 0 6 z0).1)) :=
  RunsTo.rounds (P := Tryz.prog) (N := 322) (c := rwcRRRRRRRRRRRRRRRRRRRRRRRRLRBBRLBRBB) (id := 20) 6 (fun i z => (rwS38 g z.2 0 (i : Nat) Q chi K by_ z.1)) (fun z => (rwS37 g z.2 0 Q chi K by_ z.1)) (rwG33 F g Q K 0)
    (fun i z => below6 (p := fun i => RunsTo Tryz.prog 322 rwcRRRRRRRRRRRRRRRRRRRRRRRRLRBBRLBRBB (rwS38 g z.2 0 (i : Nat) Q chi K by_ z.1) .normal (rwS38 g ((rwG33 F g Q K 0 i z).2) 0 (i + 1 : Nat) Q chi K by_ ((rwG33 F g Q K 0 i z).1)))
      (rwq33_0_0r hG (g := g) (b := z.2) (Q := Q) (chi := chi) (K := K) (by_ := by_) (T := z.1))
      (rwq33_0_1r hG (g := g) (b := z.2) (Q := Q) (chi := chi) (K := K) (by_ := by_) (T := z.1))
      (rwq33_0_2r hG (g := g) (b := z.2) (Q := Q) (chi := chi) (K := K) (by_ := by_) (T := z.1))
      (rwq33_0_3r hG (g := g) (b := z.2) (Q := Q) (chi := chi) (K := K) (by_ := by_) (T := z.1))
      (rwq33_0_4r hG (g := g) (b := z.2) (Q := Q) (chi := chi) (K := K) (by_ := by_) (T := z.1))
      (rwq33_0_5r hG (g := g) (b := z.2) (Q := Q) (chi := chi) (K := K) (by_ := by_) (T := z.1))
      i)
    (fun z => rwq33_e0r hG (g := g) (b := z.2) (Q := Q) (chi := chi) (K := K) (by_ := by_) (T := z.1)) z0
theorem rwq33_o0 (g : Gs) (Q : Mx) (chi : Int) (K : Mx) (by_ : R6) (z : Mx × Bool) : RunsTo Tryz.prog 322 rwcRRRRRRRRRRRRRRRRRRRRRRRRLRBB (rwS37 g z.2 0 Q chi K by_ z.1) .normal (rwS37 g ((rwF33 F g Q K 0 z).2) 1 Q chi K by_ ((rwF33 F g Q K 0 z).1)) := by
  rw [rwq33_is]
  exact (rwq33_h0r hG (g := g) (b := z.2) (Q := Q) (chi := chi) (K := K) (by_ := by_) (T := z.1)).seq (RunsTo.seq (RunsTo.block ((rwq33_j0r hG (g := g) (b := z.2) (Q := Q) (chi := chi) (K := K) (by_ := by_) (T := z.1)).seq (rwq33_i0 hG (g := g) (Q := Q) (chi := chi) (K := K) (by_ := by_) (z0 := z))) (.inl rfl)) (rwq33_p0r hG (g := g) (b := (rwF33 F g Q K 0 z).2) (Q := Q) (chi := chi) (K := K) (by_ := by_) (T := (rwF33 F g Q K 0 z).1)))
theorem rwq33_h1r (g : Gs) (b : Bool) (Q : Mx) (chi : Int) (K : Mx) (by_ : R6) (T : Mx) : RunsTo Tryz.prog 322 rwcRRRRRRRRRRRRRRRRRRRRRRRRLRBBL (rwS37 g b 1 Q chi K by_ T) .normal (rwS37 g b 1 Q chi K by_ T) := gCut_runs hG (rwq33_h1 (F := F) (g := g) (b := b) (Q := Q) (chi := chi) (K := K) (by_ := by_) (T := T)) rfl (rwS37_k ..) rfl
theorem rwq33_j1r (g : Gs) (b : Bool) (Q : Mx) (chi : Int) (K : Mx) (by_ : R6) (T : Mx) : RunsTo Tryz.prog 322 rwcRRRRRRRRRRRRRRRRRRRRRRRRLRBBRLBL (rwS37 g b 1 Q chi K by_ T) .normal (rwS38 g b 1 0 Q chi K by_ T) := gCut_runs hG (rwq33_j1 (F := F) (g := g) (b := b) (Q := Q) (chi := chi) (K := K) (by_ := by_) (T := T)) rfl (rwS38_k ..) rfl
theorem rwq33_p1r (g : Gs) (b : Bool) (Q : Mx) (chi : Int) (K : Mx) (by_ : R6) (T : Mx) : RunsTo Tryz.prog 322 rwcRRRRRRRRRRRRRRRRRRRRRRRRLRBBRR (rwS37 g b 1 Q chi K by_ T) .normal (rwS37 g b 2 Q chi K by_ T) := gCut_runs hG (rwq33_p1 (F := F) (g := g) (b := b) (Q := Q) (chi := chi) (K := K) (by_ := by_) (T := T)) rfl (rwS37_k ..) rfl
theorem rwq33_1_0r (g : Gs) (b : Bool) (Q : Mx) (chi : Int) (K : Mx) (by_ : R6) (T : Mx) : RunsTo Tryz.prog 322 rwcRRRRRRRRRRRRRRRRRRRRRRRRLRBBRLBRBB (rwS38 g b 1 0 Q chi K by_ T) .normal (rwS38 g ((rwG33 F g Q K 1 0 (T, b)).2) 1 1 Q chi K by_ ((rwG33 F g Q K 1 0 (T, b)).1)) := gCut_runs hG (rwq33_1_0 (F := F) (g := g) (b := b) (Q := Q) (chi := chi) (K := K) (by_ := by_) (T := T)) rfl (rwS38_k ..) rfl
theorem rwq33_1_1r (g : Gs) (b : Bool) (Q : Mx) (chi : Int) (K : Mx) (by_ : R6) (T : Mx) : RunsTo Tryz.prog 322 rwcRRRRRRRRRRRRRRRRRRRRRRRRLRBBRLBRBB (rwS38 g b 1 1 Q chi K by_ T) .normal (rwS38 g ((rwG33 F g Q K 1 1 (T, b)).2) 1 2 Q chi K by_ ((rwG33 F g Q K 1 1 (T, b)).1)) := gCut_runs hG (rwq33_1_1 (F := F) (g := g) (b := b) (Q := Q) (chi := chi) (K := K) (by_ := by_) (T := T)) rfl (rwS38_k ..) rfl
theorem rwq33_1_2r (g : Gs) (b : Bool) (Q : Mx) (chi : Int) (K : Mx) (by_ : R6) (T : Mx) : RunsTo Tryz.prog 322 rwcRRRRRRRRRRRRRRRRRRRRRRRRLRBBRLBRBB (rwS38 g b 1 2 Q chi K by_ T) .normal (rwS38 g ((rwG33 F g Q K 1 2 (T, b)).2) 1 3 Q chi K by_ ((rwG33 F g Q K 1 2 (T, b)).1)) := gCut_runs hG (rwq33_1_2 (F := F) (g := g) (b := b) (Q := Q) (chi := chi) (K := K) (by_ := by_) (T := T)) rfl (rwS38_k ..) rfl
theorem rwq33_1_3r (g : Gs) (b : Bool) (Q : Mx) (chi : Int) (K : Mx) (by_ : R6) (T : Mx) : RunsTo Tryz.prog 322 rwcRRRRRRRRRRRRRRRRRRRRRRRRLRBBRLBRBB (rwS38 g b 1 3 Q chi K by_ T) .normal (rwS38 g ((rwG33 F g Q K 1 3 (T, b)).2) 1 4 Q chi K by_ ((rwG33 F g Q K 1 3 (T, b)).1)) := gCut_runs hG (rwq33_1_3 (F := F) (g := g) (b := b) (Q := Q) (chi := chi) (K := K) (by_ := by_) (T := T)) rfl (rwS38_k ..) rfl
theorem rwq33_1_4r (g : Gs) (b : Bool) (Q : Mx) (chi : Int) (K : Mx) (by_ : R6) (T : Mx) : RunsTo Tryz.prog 322 rwcRRRRRRRRRRRRRRRRRRRRRRRRLRBBRLBRBB (rwS38 g b 1 4 Q chi K by_ T) .normal (rwS38 g ((rwG33 F g Q K 1 4 (T, b)).2) 1 5 Q chi K by_ ((rwG33 F g Q K 1 4 (T, b)).1)) := gCut_runs hG (rwq33_1_4 (F := F) (g := g) (b := b) (Q := Q) (chi := chi) (K := K) (by_ := by_) (T := T)) rfl (rwS38_k ..) rfl
theorem rwq33_1_5r (g : Gs) (b : Bool) (Q : Mx) (chi : Int) (K : Mx) (by_ : R6) (T : Mx) : RunsTo Tryz.prog 322 rwcRRRRRRRRRRRRRRRRRRRRRRRRLRBBRLBRBB (rwS38 g b 1 5 Q chi K by_ T) .normal (rwS38 g ((rwG33 F g Q K 1 5 (T, b)).2) 1 6 Q chi K by_ ((rwG33 F g Q K 1 5 (T, b)).1)) := gCut_runs hG (rwq33_1_5 (F := F) (g := g) (b := b) (Q := Q) (chi := chi) (K := K) (by_ := by_) (T := T)) rfl (rwS38_k ..) rfl
theorem rwq33_e1r (g : Gs) (b : Bool) (Q : Mx) (chi : Int) (K : Mx) (by_ : R6) (T : Mx) : RunsTo Tryz.prog 322 rwcRRRRRRRRRRRRRRRRRRRRRRRRLRBBRLBRBB (rwS38 g b 1 6 Q chi K by_ T) (.exit 20) (rwS37 g b 1 Q chi K by_ T) := gCut_runs hG (rwq33_e1 (F := F) (g := g) (b := b) (Q := Q) (chi := chi) (K := K) (by_ := by_) (T := T)) rfl (rwS37_k ..) rfl
theorem rwq33_i1 (g : Gs) (Q : Mx) (chi : Int) (K : Mx) (by_ : R6) (z0 : Mx × Bool) : RunsTo Tryz.prog 322 (.block 20 (.loop rwcRRRRRRRRRRRRRRRRRRRRRRRRLRBBRLBRBB)) (rwS38 g z0.2 1 0 Q chi K by_ z0.1) .normal (rwS37 g ((iterF (rwG33 F g Q K 1) 0 6 z0).2) 1 Q chi K by_ ((iterF (rwG33 F g Q K 1) 0 6 z0).1)) :=
  RunsTo.rounds (P := Tryz.prog) (N := 322) (c := rwcRRRRRRRRRRRRRRRRRRRRRRRRLRBBRLBRBB) (id := 20) 6 (fun i z => (rwS38 g z.2 1 (i : Nat) Q chi K by_ z.1)) (fun z => (rwS37 g z.2 1 Q chi K by_ z.1)) (rwG33 F g Q K 1)
    (fun i z => below6 (p := fun i => RunsTo Tryz.prog 322 rwcRRRRRRRRRRRRRRRRRRRRRRRRLRBBRLBRBB (rwS38 g z.2 1 (i : Nat) Q chi K by_ z.1) .normal (rwS38 g ((rwG33 F g Q K 1 i z).2) 1 (i + 1 : Nat) Q chi K by_ ((rwG33 F g Q K 1 i z).1)))
      (rwq33_1_0r hG (g := g) (b := z.2) (Q := Q) (chi := chi) (K := K) (by_ := by_) (T := z.1))
      (rwq33_1_1r hG (g := g) (b := z.2) (Q := Q) (chi := chi) (K := K) (by_ := by_) (T := z.1))
      (rwq33_1_2r hG (g := g) (b := z.2) (Q := Q) (chi := chi) (K := K) (by_ := by_) (T := z.1))
      (rwq33_1_3r hG (g := g) (b := z.2) (Q := Q) (chi := chi) (K := K) (by_ := by_) (T := z.1))
      (rwq33_1_4r hG (g := g) (b := z.2) (Q := Q) (chi := chi) (K := K) (by_ := by_) (T := z.1))
      (rwq33_1_5r hG (g := g) (b := z.2) (Q := Q) (chi := chi) (K := K) (by_ := by_) (T := z.1))
      i)
    (fun z => rwq33_e1r hG (g := g) (b := z.2) (Q := Q) (chi := chi) (K := K) (by_ := by_) (T := z.1)) z0
theorem rwq33_o1 (g : Gs) (Q : Mx) (chi : Int) (K : Mx) (by_ : R6) (z : Mx × Bool) : RunsTo Tryz.prog 322 rwcRRRRRRRRRRRRRRRRRRRRRRRRLRBB (rwS37 g z.2 1 Q chi K by_ z.1) .normal (rwS37 g ((rwF33 F g Q K 1 z).2) 2 Q chi K by_ ((rwF33 F g Q K 1 z).1)) := by
  rw [rwq33_is]
  exact (rwq33_h1r hG (g := g) (b := z.2) (Q := Q) (chi := chi) (K := K) (by_ := by_) (T := z.1)).seq (RunsTo.seq (RunsTo.block ((rwq33_j1r hG (g := g) (b := z.2) (Q := Q) (chi := chi) (K := K) (by_ := by_) (T := z.1)).seq (rwq33_i1 hG (g := g) (Q := Q) (chi := chi) (K := K) (by_ := by_) (z0 := z))) (.inl rfl)) (rwq33_p1r hG (g := g) (b := (rwF33 F g Q K 1 z).2) (Q := Q) (chi := chi) (K := K) (by_ := by_) (T := (rwF33 F g Q K 1 z).1)))
theorem rwq33_h2r (g : Gs) (b : Bool) (Q : Mx) (chi : Int) (K : Mx) (by_ : R6) (T : Mx) : RunsTo Tryz.prog 322 rwcRRRRRRRRRRRRRRRRRRRRRRRRLRBBL (rwS37 g b 2 Q chi K by_ T) .normal (rwS37 g b 2 Q chi K by_ T) := gCut_runs hG (rwq33_h2 (F := F) (g := g) (b := b) (Q := Q) (chi := chi) (K := K) (by_ := by_) (T := T)) rfl (rwS37_k ..) rfl
theorem rwq33_j2r (g : Gs) (b : Bool) (Q : Mx) (chi : Int) (K : Mx) (by_ : R6) (T : Mx) : RunsTo Tryz.prog 322 rwcRRRRRRRRRRRRRRRRRRRRRRRRLRBBRLBL (rwS37 g b 2 Q chi K by_ T) .normal (rwS38 g b 2 0 Q chi K by_ T) := gCut_runs hG (rwq33_j2 (F := F) (g := g) (b := b) (Q := Q) (chi := chi) (K := K) (by_ := by_) (T := T)) rfl (rwS38_k ..) rfl
theorem rwq33_p2r (g : Gs) (b : Bool) (Q : Mx) (chi : Int) (K : Mx) (by_ : R6) (T : Mx) : RunsTo Tryz.prog 322 rwcRRRRRRRRRRRRRRRRRRRRRRRRLRBBRR (rwS37 g b 2 Q chi K by_ T) .normal (rwS37 g b 3 Q chi K by_ T) := gCut_runs hG (rwq33_p2 (F := F) (g := g) (b := b) (Q := Q) (chi := chi) (K := K) (by_ := by_) (T := T)) rfl (rwS37_k ..) rfl
theorem rwq33_2_0r (g : Gs) (b : Bool) (Q : Mx) (chi : Int) (K : Mx) (by_ : R6) (T : Mx) : RunsTo Tryz.prog 322 rwcRRRRRRRRRRRRRRRRRRRRRRRRLRBBRLBRBB (rwS38 g b 2 0 Q chi K by_ T) .normal (rwS38 g ((rwG33 F g Q K 2 0 (T, b)).2) 2 1 Q chi K by_ ((rwG33 F g Q K 2 0 (T, b)).1)) := gCut_runs hG (rwq33_2_0 (F := F) (g := g) (b := b) (Q := Q) (chi := chi) (K := K) (by_ := by_) (T := T)) rfl (rwS38_k ..) rfl
theorem rwq33_2_1r (g : Gs) (b : Bool) (Q : Mx) (chi : Int) (K : Mx) (by_ : R6) (T : Mx) : RunsTo Tryz.prog 322 rwcRRRRRRRRRRRRRRRRRRRRRRRRLRBBRLBRBB (rwS38 g b 2 1 Q chi K by_ T) .normal (rwS38 g ((rwG33 F g Q K 2 1 (T, b)).2) 2 2 Q chi K by_ ((rwG33 F g Q K 2 1 (T, b)).1)) := gCut_runs hG (rwq33_2_1 (F := F) (g := g) (b := b) (Q := Q) (chi := chi) (K := K) (by_ := by_) (T := T)) rfl (rwS38_k ..) rfl
theorem rwq33_2_2r (g : Gs) (b : Bool) (Q : Mx) (chi : Int) (K : Mx) (by_ : R6) (T : Mx) : RunsTo Tryz.prog 322 rwcRRRRRRRRRRRRRRRRRRRRRRRRLRBBRLBRBB (rwS38 g b 2 2 Q chi K by_ T) .normal (rwS38 g ((rwG33 F g Q K 2 2 (T, b)).2) 2 3 Q chi K by_ ((rwG33 F g Q K 2 2 (T, b)).1)) := gCut_runs hG (rwq33_2_2 (F := F) (g := g) (b := b) (Q := Q) (chi := chi) (K := K) (by_ := by_) (T := T)) rfl (rwS38_k ..) rfl
theorem rwq33_2_3r (g : Gs) (b : Bool) (Q : Mx) (chi : Int) (K : Mx) (by_ : R6) (T : Mx) : RunsTo Tryz.prog 322 rwcRRRRRRRRRRRRRRRRRRRRRRRRLRBBRLBRBB (rwS38 g b 2 3 Q chi K by_ T) .normal (rwS38 g ((rwG33 F g Q K 2 3 (T, b)).2) 2 4 Q chi K by_ ((rwG33 F g Q K 2 3 (T, b)).1)) := gCut_runs hG (rwq33_2_3 (F := F) (g := g) (b := b) (Q := Q) (chi := chi) (K := K) (by_ := by_) (T := T)) rfl (rwS38_k ..) rfl
theorem rwq33_2_4r (g : Gs) (b : Bool) (Q : Mx) (chi : Int) (K : Mx) (by_ : R6) (T : Mx) : RunsTo Tryz.prog 322 rwcRRRRRRRRRRRRRRRRRRRRRRRRLRBBRLBRBB (rwS38 g b 2 4 Q chi K by_ T) .normal (rwS38 g ((rwG33 F g Q K 2 4 (T, b)).2) 2 5 Q chi K by_ ((rwG33 F g Q K 2 4 (T, b)).1)) := gCut_runs hG (rwq33_2_4 (F := F) (g := g) (b := b) (Q := Q) (chi := chi) (K := K) (by_ := by_) (T := T)) rfl (rwS38_k ..) rfl
theorem rwq33_2_5r (g : Gs) (b : Bool) (Q : Mx) (chi : Int) (K : Mx) (by_ : R6) (T : Mx) : RunsTo Tryz.prog 322 rwcRRRRRRRRRRRRRRRRRRRRRRRRLRBBRLBRBB (rwS38 g b 2 5 Q chi K by_ T) .normal (rwS38 g ((rwG33 F g Q K 2 5 (T, b)).2) 2 6 Q chi K by_ ((rwG33 F g Q K 2 5 (T, b)).1)) := gCut_runs hG (rwq33_2_5 (F := F) (g := g) (b := b) (Q := Q) (chi := chi) (K := K) (by_ := by_) (T := T)) rfl (rwS38_k ..) rfl
theorem rwq33_e2r (g : Gs) (b : Bool) (Q : Mx) (chi : Int) (K : Mx) (by_ : R6) (T : Mx) : RunsTo Tryz.prog 322 rwcRRRRRRRRRRRRRRRRRRRRRRRRLRBBRLBRBB (rwS38 g b 2 6 Q chi K by_ T) (.exit 20) (rwS37 g b 2 Q chi K by_ T) := gCut_runs hG (rwq33_e2 (F := F) (g := g) (b := b) (Q := Q) (chi := chi) (K := K) (by_ := by_) (T := T)) rfl (rwS37_k ..) rfl
theorem rwq33_i2 (g : Gs) (Q : Mx) (chi : Int) (K : Mx) (by_ : R6) (z0 : Mx × Bool) : RunsTo Tryz.prog 322 (.block 20 (.loop rwcRRRRRRRRRRRRRRRRRRRRRRRRLRBBRLBRBB)) (rwS38 g z0.2 2 0 Q chi K by_ z0.1) .normal (rwS37 g ((iterF (rwG33 F g Q K 2) 0 6 z0).2) 2 Q chi K by_ ((iterF (rwG33 F g Q K 2) 0 6 z0).1)) :=
  RunsTo.rounds (P := Tryz.prog) (N := 322) (c := rwcRRRRRRRRRRRRRRRRRRRRRRRRLRBBRLBRBB) (id := 20) 6 (fun i z => (rwS38 g z.2 2 (i : Nat) Q chi K by_ z.1)) (fun z => (rwS37 g z.2 2 Q chi K by_ z.1)) (rwG33 F g Q K 2)
    (fun i z => below6 (p := fun i => RunsTo Tryz.prog 322 rwcRRRRRRRRRRRRRRRRRRRRRRRRLRBBRLBRBB (rwS38 g z.2 2 (i : Nat) Q chi K by_ z.1) .normal (rwS38 g ((rwG33 F g Q K 2 i z).2) 2 (i + 1 : Nat) Q chi K by_ ((rwG33 F g Q K 2 i z).1)))
      (rwq33_2_0r hG (g := g) (b := z.2) (Q := Q) (chi := chi) (K := K) (by_ := by_) (T := z.1))
      (rwq33_2_1r hG (g := g) (b := z.2) (Q := Q) (chi := chi) (K := K) (by_ := by_) (T := z.1))
      (rwq33_2_2r hG (g := g) (b := z.2) (Q := Q) (chi := chi) (K := K) (by_ := by_) (T := z.1))
      (rwq33_2_3r hG (g := g) (b := z.2) (Q := Q) (chi := chi) (K := K) (by_ := by_) (T := z.1))
      (rwq33_2_4r hG (g := g) (b := z.2) (Q := Q) (chi := chi) (K := K) (by_ := by_) (T := z.1))
      (rwq33_2_5r hG (g := g) (b := z.2) (Q := Q) (chi := chi) (K := K) (by_ := by_) (T := z.1))
      i)
    (fun z => rwq33_e2r hG (g := g) (b := z.2) (Q := Q) (chi := chi) (K := K) (by_ := by_) (T := z.1)) z0
theorem rwq33_o2 (g : Gs) (Q : Mx) (chi : Int) (K : Mx) (by_ : R6) (z : Mx × Bool) : RunsTo Tryz.prog 322 rwcRRRRRRRRRRRRRRRRRRRRRRRRLRBB (rwS37 g z.2 2 Q chi K by_ z.1) .normal (rwS37 g ((rwF33 F g Q K 2 z).2) 3 Q chi K by_ ((rwF33 F g Q K 2 z).1)) := by
  rw [rwq33_is]
  exact (rwq33_h2r hG (g := g) (b := z.2) (Q := Q) (chi := chi) (K := K) (by_ := by_) (T := z.1)).seq (RunsTo.seq (RunsTo.block ((rwq33_j2r hG (g := g) (b := z.2) (Q := Q) (chi := chi) (K := K) (by_ := by_) (T := z.1)).seq (rwq33_i2 hG (g := g) (Q := Q) (chi := chi) (K := K) (by_ := by_) (z0 := z))) (.inl rfl)) (rwq33_p2r hG (g := g) (b := (rwF33 F g Q K 2 z).2) (Q := Q) (chi := chi) (K := K) (by_ := by_) (T := (rwF33 F g Q K 2 z).1)))
theorem rwq33_h3r (g : Gs) (b : Bool) (Q : Mx) (chi : Int) (K : Mx) (by_ : R6) (T : Mx) : RunsTo Tryz.prog 322 rwcRRRRRRRRRRRRRRRRRRRRRRRRLRBBL (rwS37 g b 3 Q chi K by_ T) .normal (rwS37 g b 3 Q chi K by_ T) := gCut_runs hG (rwq33_h3 (F := F) (g := g) (b := b) (Q := Q) (chi := chi) (K := K) (by_ := by_) (T := T)) rfl (rwS37_k ..) rfl
theorem rwq33_j3r (g : Gs) (b : Bool) (Q : Mx) (chi : Int) (K : Mx) (by_ : R6) (T : Mx) : RunsTo Tryz.prog 322 rwcRRRRRRRRRRRRRRRRRRRRRRRRLRBBRLBL (rwS37 g b 3 Q chi K by_ T) .normal (rwS38 g b 3 0 Q chi K by_ T) := gCut_runs hG (rwq33_j3 (F := F) (g := g) (b := b) (Q := Q) (chi := chi) (K := K) (by_ := by_) (T := T)) rfl (rwS38_k ..) rfl
theorem rwq33_p3r (g : Gs) (b : Bool) (Q : Mx) (chi : Int) (K : Mx) (by_ : R6) (T : Mx) : RunsTo Tryz.prog 322 rwcRRRRRRRRRRRRRRRRRRRRRRRRLRBBRR (rwS37 g b 3 Q chi K by_ T) .normal (rwS37 g b 4 Q chi K by_ T) := gCut_runs hG (rwq33_p3 (F := F) (g := g) (b := b) (Q := Q) (chi := chi) (K := K) (by_ := by_) (T := T)) rfl (rwS37_k ..) rfl
theorem rwq33_3_0r (g : Gs) (b : Bool) (Q : Mx) (chi : Int) (K : Mx) (by_ : R6) (T : Mx) : RunsTo Tryz.prog 322 rwcRRRRRRRRRRRRRRRRRRRRRRRRLRBBRLBRBB (rwS38 g b 3 0 Q chi K by_ T) .normal (rwS38 g ((rwG33 F g Q K 3 0 (T, b)).2) 3 1 Q chi K by_ ((rwG33 F g Q K 3 0 (T, b)).1)) := gCut_runs hG (rwq33_3_0 (F := F) (g := g) (b := b) (Q := Q) (chi := chi) (K := K) (by_ := by_) (T := T)) rfl (rwS38_k ..) rfl
theorem rwq33_3_1r (g : Gs) (b : Bool) (Q : Mx) (chi : Int) (K : Mx) (by_ : R6) (T : Mx) : RunsTo Tryz.prog 322 rwcRRRRRRRRRRRRRRRRRRRRRRRRLRBBRLBRBB (rwS38 g b 3 1 Q chi K by_ T) .normal (rwS38 g ((rwG33 F g Q K 3 1 (T, b)).2) 3 2 Q chi K by_ ((rwG33 F g Q K 3 1 (T, b)).1)) := gCut_runs hG (rwq33_3_1 (F := F) (g := g) (b := b) (Q := Q) (chi := chi) (K := K) (by_ := by_) (T := T)) rfl (rwS38_k ..) rfl
theorem rwq33_3_2r (g : Gs) (b : Bool) (Q : Mx) (chi : Int) (K : Mx) (by_ : R6) (T : Mx) : RunsTo Tryz.prog 322 rwcRRRRRRRRRRRRRRRRRRRRRRRRLRBBRLBRBB (rwS38 g b 3 2 Q chi K by_ T) .normal (rwS38 g ((rwG33 F g Q K 3 2 (T, b)).2) 3 3 Q chi K by_ ((rwG33 F g Q K 3 2 (T, b)).1)) := gCut_runs hG (rwq33_3_2 (F := F) (g := g) (b := b) (Q := Q) (chi := chi) (K := K) (by_ := by_) (T := T)) rfl (rwS38_k ..) rfl
theorem rwq33_3_3r (g : Gs) (b : Bool) (Q : Mx) (chi : Int) (K : Mx) (by_ : R6) (T : Mx) : RunsTo Tryz.prog 322 rwcRRRRRRRRRRRRRRRRRRRRRRRRLRBBRLBRBB (rwS38 g b 3 3 Q chi K by_ T) .normal (rwS38 g ((rwG33 F g Q K 3 3 (T, b)).2) 3 4 Q chi K by_ ((rwG33 F g Q K 3 3 (T, b)).1)) := gCut_runs hG (rwq33_3_3 (F := F) (g := g) (b := b) (Q := Q) (chi := chi) (K := K) (by_ := by_) (T := T)) rfl (rwS38_k ..) rfl
theorem rwq33_3_4r (g : Gs) (b : Bool) (Q : Mx) (chi : Int) (K : Mx) (by_ : R6) (T : Mx) : RunsTo Tryz.prog 322 rwcRRRRRRRRRRRRRRRRRRRRRRRRLRBBRLBRBB (rwS38 g b 3 4 Q chi K by_ T) .normal (rwS38 g ((rwG33 F g Q K 3 4 (T, b)).2) 3 5 Q chi K by_ ((rwG33 F g Q K 3 4 (T, b)).1)) := gCut_runs hG (rwq33_3_4 (F := F) (g := g) (b := b) (Q := Q) (chi := chi) (K := K) (by_ := by_) (T := T)) rfl (rwS38_k ..) rfl
theorem rwq33_3_5r (g : Gs) (b : Bool) (Q : Mx) (chi : Int) (K : Mx) (by_ : R6) (T : Mx) : RunsTo Tryz.prog 322 rwcRRRRRRRRRRRRRRRRRRRRRRRRLRBBRLBRBB (rwS38 g b 3 5 Q chi K by_ T) .normal (rwS38 g ((rwG33 F g Q K 3 5 (T, b)).2) 3 6 Q chi K by_ ((rwG33 F g Q K 3 5 (T, b)).1)) := gCut_runs hG (rwq33_3_5 (F := F) (g := g) (b := b) (Q := Q) (chi := chi) (K := K) (by_ := by_) (T := T)) rfl (rwS38_k ..) rfl
theorem rwq33_e3r (g : Gs) (b : Bool) (Q : Mx) (chi : Int) (K : Mx) (by_ : R6) (T : Mx) : RunsTo Tryz.prog 322 rwcRRRRRRRRRRRRRRRRRRRRRRRRLRBBRLBRBB (rwS38 g b 3 6 Q chi K by_ T) (.exit 20) (rwS37 g b 3 Q chi K by_ T) := gCut_runs hG (rwq33_e3 (F := F) (g := g) (b := b) (Q := Q) (chi := chi) (K := K) (by_ := by_) (T := T)) rfl (rwS37_k ..) rfl
theorem rwq33_i3 (g : Gs) (Q : Mx) (chi : Int) (K : Mx) (by_ : R6) (z0 : Mx × Bool) : RunsTo Tryz.prog 322 (.block 20 (.loop rwcRRRRRRRRRRRRRRRRRRRRRRRRLRBBRLBRBB)) (rwS38 g z0.2 3 0 Q chi K by_ z0.1) .normal (rwS37 g ((iterF (rwG33 F g Q K 3) 0 6 z0).2) 3 Q chi K by_ ((iterF (rwG33 F g Q K 3) 0 6 z0).1)) :=
  RunsTo.rounds (P := Tryz.prog) (N := 322) (c := rwcRRRRRRRRRRRRRRRRRRRRRRRRLRBBRLBRBB) (id := 20) 6 (fun i z => (rwS38 g z.2 3 (i : Nat) Q chi K by_ z.1)) (fun z => (rwS37 g z.2 3 Q chi K by_ z.1)) (rwG33 F g Q K 3)
    (fun i z => below6 (p := fun i => RunsTo Tryz.prog 322 rwcRRRRRRRRRRRRRRRRRRRRRRRRLRBBRLBRBB (rwS38 g z.2 3 (i : Nat) Q chi K by_ z.1) .normal (rwS38 g ((rwG33 F g Q K 3 i z).2) 3 (i + 1 : Nat) Q chi K by_ ((rwG33 F g Q K 3 i z).1)))
      (rwq33_3_0r hG (g := g) (b := z.2) (Q := Q) (chi := chi) (K := K) (by_ := by_) (T := z.1))
      (rwq33_3_1r hG (g := g) (b := z.2) (Q := Q) (chi := chi) (K := K) (by_ := by_) (T := z.1))
      (rwq33_3_2r hG (g := g) (b := z.2) (Q := Q) (chi := chi) (K := K) (by_ := by_) (T := z.1))
      (rwq33_3_3r hG (g := g) (b := z.2) (Q := Q) (chi := chi) (K := K) (by_ := by_) (T := z.1))
      (rwq33_3_4r hG (g := g) (b := z.2) (Q := Q) (chi := chi) (K := K) (by_ := by_) (T := z.1))
      (rwq33_3_5r hG (g := g) (b := z.2) (Q := Q) (chi := chi) (K := K) (by_ := by_) (T := z.1))
      i)
    (fun z => rwq33_e3r hG (g := g) (b := z.2) (Q := Q) (chi := chi) (K := K) (by_ := by_) (T := z.1)) z0
theorem rwq33_o3 (g : Gs) (Q : Mx) (chi : Int) (K : Mx) (by_ : R6) (z : Mx × Bool) : RunsTo Tryz.prog 322 rwcRRRRRRRRRRRRRRRRRRRRRRRRLRBB (rwS37 g z.2 3 Q chi K by_ z.1) .normal (rwS37 g ((rwF33 F g Q K 3 z).2) 4 Q chi K by_ ((rwF33 F g Q K 3 z).1)) := by
  rw [rwq33_is]
  exact (rwq33_h3r hG (g := g) (b := z.2) (Q := Q) (chi := chi) (K := K) (by_ := by_) (T := z.1)).seq (RunsTo.seq (RunsTo.block ((rwq33_j3r hG (g := g) (b := z.2) (Q := Q) (chi := chi) (K := K) (by_ := by_) (T := z.1)).seq (rwq33_i3 hG (g := g) (Q := Q) (chi := chi) (K := K) (by_ := by_) (z0 := z))) (.inl rfl)) (rwq33_p3r hG (g := g) (b := (rwF33 F g Q K 3 z).2) (Q := Q) (chi := chi) (K := K) (by_ := by_) (T := (rwF33 F g Q K 3 z).1)))
theorem rwq33_h4r (g : Gs) (b : Bool) (Q : Mx) (chi : Int) (K : Mx) (by_ : R6) (T : Mx) : RunsTo Tryz.prog 322 rwcRRRRRRRRRRRRRRRRRRRRRRRRLRBBL (rwS37 g b 4 Q chi K by_ T) .normal (rwS37 g b 4 Q chi K by_ T) := gCut_runs hG (rwq33_h4 (F := F) (g := g) (b := b) (Q := Q) (chi := chi) (K := K) (by_ := by_) (T := T)) rfl (rwS37_k ..) rfl
theorem rwq33_j4r (g : Gs) (b : Bool) (Q : Mx) (chi : Int) (K : Mx) (by_ : R6) (T : Mx) : RunsTo Tryz.prog 322 rwcRRRRRRRRRRRRRRRRRRRRRRRRLRBBRLBL (rwS37 g b 4 Q chi K by_ T) .normal (rwS38 g b 4 0 Q chi K by_ T) := gCut_runs hG (rwq33_j4 (F := F) (g := g) (b := b) (Q := Q) (chi := chi) (K := K) (by_ := by_) (T := T)) rfl (rwS38_k ..) rfl
theorem rwq33_p4r (g : Gs) (b : Bool) (Q : Mx) (chi : Int) (K : Mx) (by_ : R6) (T : Mx) : RunsTo Tryz.prog 322 rwcRRRRRRRRRRRRRRRRRRRRRRRRLRBBRR (rwS37 g b 4 Q chi K by_ T) .normal (rwS37 g b 5 Q chi K by_ T) := gCut_runs hG (rwq33_p4 (F := F) (g := g) (b := b) (Q := Q) (chi := chi) (K := K) (by_ := by_) (T := T)) rfl (rwS37_k ..) rfl
theorem rwq33_4_0r (g : Gs) (b : Bool) (Q : Mx) (chi : Int) (K : Mx) (by_ : R6) (T : Mx) : RunsTo Tryz.prog 322 rwcRRRRRRRRRRRRRRRRRRRRRRRRLRBBRLBRBB (rwS38 g b 4 0 Q chi K by_ T) .normal (rwS38 g ((rwG33 F g Q K 4 0 (T, b)).2) 4 1 Q chi K by_ ((rwG33 F g Q K 4 0 (T, b)).1)) := gCut_runs hG (rwq33_4_0 (F := F) (g := g) (b := b) (Q := Q) (chi := chi) (K := K) (by_ := by_) (T := T)) rfl (rwS38_k ..) rfl
theorem rwq33_4_1r (g : Gs) (b : Bool) (Q : Mx) (chi : Int) (K : Mx) (by_ : R6) (T : Mx) : RunsTo Tryz.prog 322 rwcRRRRRRRRRRRRRRRRRRRRRRRRLRBBRLBRBB (rwS38 g b 4 1 Q chi K by_ T) .normal (rwS38 g ((rwG33 F g Q K 4 1 (T, b)).2) 4 2 Q chi K by_ ((rwG33 F g Q K 4 1 (T, b)).1)) := gCut_runs hG (rwq33_4_1 (F := F) (g := g) (b := b) (Q := Q) (chi := chi) (K := K) (by_ := by_) (T := T)) rfl (rwS38_k ..) rfl
theorem rwq33_4_2r (g : Gs) (b : Bool) (Q : Mx) (chi : Int) (K : Mx) (by_ : R6) (T : Mx) : RunsTo Tryz.prog 322 rwcRRRRRRRRRRRRRRRRRRRRRRRRLRBBRLBRBB (rwS38 g b 4 2 Q chi K by_ T) .normal (rwS38 g ((rwG33 F g Q K 4 2 (T, b)).2) 4 3 Q chi K by_ ((rwG33 F g Q K 4 2 (T, b)).1)) := gCut_runs hG (rwq33_4_2 (F := F) (g := g) (b := b) (Q := Q) (chi := chi) (K := K) (by_ := by_) (T := T)) rfl (rwS38_k ..) rfl
theorem rwq33_4_3r (g : Gs) (b : Bool) (Q : Mx) (chi : Int) (K : Mx) (by_ : R6) (T : Mx) : RunsTo Tryz.prog 322 rwcRRRRRRRRRRRRRRRRRRRRRRRRLRBBRLBRBB (rwS38 g b 4 3 Q chi K by_ T) .normal (rwS38 g ((rwG33 F g Q K 4 3 (T, b)).2) 4 4 Q chi K by_ ((rwG33 F g Q K 4 3 (T, b)).1)) := gCut_runs hG (rwq33_4_3 (F := F) (g := g) (b := b) (Q := Q) (chi := chi) (K := K) (by_ := by_) (T := T)) rfl (rwS38_k ..) rfl
theorem rwq33_4_4r (g : Gs) (b : Bool) (Q : Mx) (chi : Int) (K : Mx) (by_ : R6) (T : Mx) : RunsTo Tryz.prog 322 rwcRRRRRRRRRRRRRRRRRRRRRRRRLRBBRLBRBB (rwS38 g b 4 4 Q chi K by_ T) .normal (rwS38 g ((rwG33 F g Q K 4 4 (T, b)).2) 4 5 Q chi K by_ ((rwG33 F g Q K 4 4 (T, b)).1)) := gCut_runs hG (rwq33_4_4 (F := F) (g := g) (b := b) (Q := Q) (chi := chi) (K := K) (by_ := by_) (T := T)) rfl (rwS38_k ..) rfl
theorem rwq33_4_5r (g : Gs) (b : Bool) (Q : Mx) (chi : Int) (K : Mx) (by_ : R6) (T : Mx) : RunsTo Tryz.prog 322 rwcRRRRRRRRRRRRRRRRRRRRRRRRLRBBRLBRBB (rwS38 g b 4 5 Q chi K by_ T) .normal (rwS38 g ((rwG33 F g Q K 4 5 (T, b)).2) 4 6 Q chi K by_ ((rwG33 F g Q K 4 5 (T, b)).1)) := gCut_runs hG (rwq33_4_5 (F := F) (g := g) (b := b) (Q := Q) (chi := chi) (K := K) (by_ := by_) (T := T)) rfl (rwS38_k ..) rfl
theorem rwq33_e4r (g : Gs) (b : Bool) (Q : Mx) (chi : Int) (K : Mx) (by_ : R6) (T : Mx) : RunsTo Tryz.prog 322 rwcRRRRRRRRRRRRRRRRRRRRRRRRLRBBRLBRBB (rwS38 g b 4 6 Q chi K by_ T) (.exit 20) (rwS37 g b 4 Q chi K by_ T) := gCut_runs hG (rwq33_e4 (F := F) (g := g) (b := b) (Q := Q) (chi := chi) (K := K) (by_ := by_) (T := T)) rfl (rwS37_k ..) rfl
theorem rwq33_i4 (g : Gs) (Q : Mx) (chi : Int) (K : Mx) (by_ : R6) (z0 : Mx × Bool) : RunsTo Tryz.prog 322 (.block 20 (.loop rwcRRRRRRRRRRRRRRRRRRRRRRRRLRBBRLBRBB)) (rwS38 g z0.2 4 0 Q chi K by_ z0.1) .normal (rwS37 g ((iterF (rwG33 F g Q K 4) 0 6 z0).2) 4 Q chi K by_ ((iterF (rwG33 F g Q K 4) 0 6 z0).1)) :=
  RunsTo.rounds (P := Tryz.prog) (N := 322) (c := rwcRRRRRRRRRRRRRRRRRRRRRRRRLRBBRLBRBB) (id := 20) 6 (fun i z => (rwS38 g z.2 4 (i : Nat) Q chi K by_ z.1)) (fun z => (rwS37 g z.2 4 Q chi K by_ z.1)) (rwG33 F g Q K 4)
    (fun i z => below6 (p := fun i => RunsTo Tryz.prog 322 rwcRRRRRRRRRRRRRRRRRRRRRRRRLRBBRLBRBB (rwS38 g z.2 4 (i : Nat) Q chi K by_ z.1) .normal (rwS38 g ((rwG33 F g Q K 4 i z).2) 4 (i + 1 : Nat) Q chi K by_ ((rwG33 F g Q K 4 i z).1)))
      (rwq33_4_0r hG (g := g) (b := z.2) (Q := Q) (chi := chi) (K := K) (by_ := by_) (T := z.1))
      (rwq33_4_1r hG (g := g) (b := z.2) (Q := Q) (chi := chi) (K := K) (by_ := by_) (T := z.1))
      (rwq33_4_2r hG (g := g) (b := z.2) (Q := Q) (chi := chi) (K := K) (by_ := by_) (T := z.1))
      (rwq33_4_3r hG (g := g) (b := z.2) (Q := Q) (chi := chi) (K := K) (by_ := by_) (T := z.1))
      (rwq33_4_4r hG (g := g) (b := z.2) (Q := Q) (chi := chi) (K := K) (by_ := by_) (T := z.1))
      (rwq33_4_5r hG (g := g) (b := z.2) (Q := Q) (chi := chi) (K := K) (by_ := by_) (T := z.1))
      i)
    (fun z => rwq33_e4r hG (g := g) (b := z.2) (Q := Q) (chi := chi) (K := K) (by_ := by_) (T := z.1)) z0
theorem rwq33_o4 (g : Gs) (Q : Mx) (chi : Int) (K : Mx) (by_ : R6) (z : Mx × Bool) : RunsTo Tryz.prog 322 rwcRRRRRRRRRRRRRRRRRRRRRRRRLRBB (rwS37 g z.2 4 Q chi K by_ z.1) .normal (rwS37 g ((rwF33 F g Q K 4 z).2) 5 Q chi K by_ ((rwF33 F g Q K 4 z).1)) := by
  rw [rwq33_is]
  exact (rwq33_h4r hG (g := g) (b := z.2) (Q := Q) (chi := chi) (K := K) (by_ := by_) (T := z.1)).seq (RunsTo.seq (RunsTo.block ((rwq33_j4r hG (g := g) (b := z.2) (Q := Q) (chi := chi) (K := K) (by_ := by_) (T := z.1)).seq (rwq33_i4 hG (g := g) (Q := Q) (chi := chi) (K := K) (by_ := by_) (z0 := z))) (.inl rfl)) (rwq33_p4r hG (g := g) (b := (rwF33 F g Q K 4 z).2) (Q := Q) (chi := chi) (K := K) (by_ := by_) (T := (rwF33 F g Q K 4 z).1)))
theorem rwq33_h5r (g : Gs) (b : Bool) (Q : Mx) (chi : Int) (K : Mx) (by_ : R6) (T : Mx) : RunsTo Tryz.prog 322 rwcRRRRRRRRRRRRRRRRRRRRRRRRLRBBL (rwS37 g b 5 Q chi K by_ T) .normal (rwS37 g b 5 Q chi K by_ T) := gCut_runs hG (rwq33_h5 (F := F) (g := g) (b := b) (Q := Q) (chi := chi) (K := K) (by_ := by_) (T := T)) rfl (rwS37_k ..) rfl
theorem rwq33_j5r (g : Gs) (b : Bool) (Q : Mx) (chi : Int) (K : Mx) (by_ : R6) (T : Mx) : RunsTo Tryz.prog 322 rwcRRRRRRRRRRRRRRRRRRRRRRRRLRBBRLBL (rwS37 g b 5 Q chi K by_ T) .normal (rwS38 g b 5 0 Q chi K by_ T) := gCut_runs hG (rwq33_j5 (F := F) (g := g) (b := b) (Q := Q) (chi := chi) (K := K) (by_ := by_) (T := T)) rfl (rwS38_k ..) rfl
theorem rwq33_p5r (g : Gs) (b : Bool) (Q : Mx) (chi : Int) (K : Mx) (by_ : R6) (T : Mx) : RunsTo Tryz.prog 322 rwcRRRRRRRRRRRRRRRRRRRRRRRRLRBBRR (rwS37 g b 5 Q chi K by_ T) .normal (rwS37 g b 6 Q chi K by_ T) := gCut_runs hG (rwq33_p5 (F := F) (g := g) (b := b) (Q := Q) (chi := chi) (K := K) (by_ := by_) (T := T)) rfl (rwS37_k ..) rfl
theorem rwq33_5_0r (g : Gs) (b : Bool) (Q : Mx) (chi : Int) (K : Mx) (by_ : R6) (T : Mx) : RunsTo Tryz.prog 322 rwcRRRRRRRRRRRRRRRRRRRRRRRRLRBBRLBRBB (rwS38 g b 5 0 Q chi K by_ T) .normal (rwS38 g ((rwG33 F g Q K 5 0 (T, b)).2) 5 1 Q chi K by_ ((rwG33 F g Q K 5 0 (T, b)).1)) := gCut_runs hG (rwq33_5_0 (F := F) (g := g) (b := b) (Q := Q) (chi := chi) (K := K) (by_ := by_) (T := T)) rfl (rwS38_k ..) rfl
theorem rwq33_5_1r (g : Gs) (b : Bool) (Q : Mx) (chi : Int) (K : Mx) (by_ : R6) (T : Mx) : RunsTo Tryz.prog 322 rwcRRRRRRRRRRRRRRRRRRRRRRRRLRBBRLBRBB (rwS38 g b 5 1 Q chi K by_ T) .normal (rwS38 g ((rwG33 F g Q K 5 1 (T, b)).2) 5 2 Q chi K by_ ((rwG33 F g Q K 5 1 (T, b)).1)) := gCut_runs hG (rwq33_5_1 (F := F) (g := g) (b := b) (Q := Q) (chi := chi) (K := K) (by_ := by_) (T := T)) rfl (rwS38_k ..) rfl
theorem rwq33_5_2r (g : Gs) (b : Bool) (Q : Mx) (chi : Int) (K : Mx) (by_ : R6) (T : Mx) : RunsTo Tryz.prog 322 rwcRRRRRRRRRRRRRRRRRRRRRRRRLRBBRLBRBB (rwS38 g b 5 2 Q chi K by_ T) .normal (rwS38 g ((rwG33 F g Q K 5 2 (T, b)).2) 5 3 Q chi K by_ ((rwG33 F g Q K 5 2 (T, b)).1)) := gCut_runs hG (rwq33_5_2 (F := F) (g := g) (b := b) (Q := Q) (chi := chi) (K := K) (by_ := by_) (T := T)) rfl (rwS38_k ..) rfl
theorem rwq33_5_3r (g : Gs) (b : Bool) (Q : Mx) (chi : Int) (K : Mx) (by_ : R6) (T : Mx) : RunsTo Tryz.prog 322 rwcRRRRRRRRRRRRRRRRRRRRRRRRLRBBRLBRBB (rwS38 g b 5 3 Q chi K by_ T) .normal (rwS38 g ((rwG33 F g Q K 5 3 (T, b)).2) 5 4 Q chi K by_ ((rwG33 F g Q K 5 3 (T, b)).1)) := gCut_runs hG (rwq33_5_3 (F := F) (g := g) (b := b) (Q := Q) (chi := chi) (K := K) (by_ := by_) (T := T)) rfl (rwS38_k ..) rfl
theorem rwq33_5_4r (g : Gs) (b : Bool) (Q : Mx) (chi : Int) (K : Mx) (by_ : R6) (T : Mx) : RunsTo Tryz.prog 322 rwcRRRRRRRRRRRRRRRRRRRRRRRRLRBBRLBRBB (rwS38 g b 5 4 Q chi K by_ T) .normal (rwS38 g ((rwG33 F g Q K 5 4 (T, b)).2) 5 5 Q chi K by_ ((rwG33 F g Q K 5 4 (T, b)).1)) := gCut_runs hG (rwq33_5_4 (F := F) (g := g) (b := b) (Q := Q) (chi := chi) (K := K) (by_ := by_) (T := T)) rfl (rwS38_k ..) rfl
theorem rwq33_5_5r (g : Gs) (b : Bool) (Q : Mx) (chi : Int) (K : Mx) (by_ : R6) (T : Mx) : RunsTo Tryz.prog 322 rwcRRRRRRRRRRRRRRRRRRRRRRRRLRBBRLBRBB (rwS38 g b 5 5 Q chi K by_ T) .normal (rwS38 g ((rwG33 F g Q K 5 5 (T, b)).2) 5 6 Q chi K by_ ((rwG33 F g Q K 5 5 (T, b)).1)) := gCut_runs hG (rwq33_5_5 (F := F) (g := g) (b := b) (Q := Q) (chi := chi) (K := K) (by_ := by_) (T := T)) rfl (rwS38_k ..) rfl
theorem rwq33_e5r (g : Gs) (b : Bool) (Q : Mx) (chi : Int) (K : Mx) (by_ : R6) (T : Mx) : RunsTo Tryz.prog 322 rwcRRRRRRRRRRRRRRRRRRRRRRRRLRBBRLBRBB (rwS38 g b 5 6 Q chi K by_ T) (.exit 20) (rwS37 g b 5 Q chi K by_ T) := gCut_runs hG (rwq33_e5 (F := F) (g := g) (b := b) (Q := Q) (chi := chi) (K := K) (by_ := by_) (T := T)) rfl (rwS37_k ..) rfl
theorem rwq33_i5 (g : Gs) (Q : Mx) (chi : Int) (K : Mx) (by_ : R6) (z0 : Mx × Bool) : RunsTo Tryz.prog 322 (.block 20 (.loop rwcRRRRRRRRRRRRRRRRRRRRRRRRLRBBRLBRBB)) (rwS38 g z0.2 5 0 Q chi K by_ z0.1) .normal (rwS37 g ((iterF (rwG33 F g Q K 5) 0 6 z0).2) 5 Q chi K by_ ((iterF (rwG33 F g Q K 5) 0 6 z0).1)) :=
  RunsTo.rounds (P := Tryz.prog) (N := 322) (c := rwcRRRRRRRRRRRRRRRRRRRRRRRRLRBBRLBRBB) (id := 20) 6 (fun i z => (rwS38 g z.2 5 (i : Nat) Q chi K by_ z.1)) (fun z => (rwS37 g z.2 5 Q chi K by_ z.1)) (rwG33 F g Q K 5)
    (fun i z => below6 (p := fun i => RunsTo Tryz.prog 322 rwcRRRRRRRRRRRRRRRRRRRRRRRRLRBBRLBRBB (rwS38 g z.2 5 (i : Nat) Q chi K by_ z.1) .normal (rwS38 g ((rwG33 F g Q K 5 i z).2) 5 (i + 1 : Nat) Q chi K by_ ((rwG33 F g Q K 5 i z).1)))
      (rwq33_5_0r hG (g := g) (b := z.2) (Q := Q) (chi := chi) (K := K) (by_ := by_) (T := z.1))
      (rwq33_5_1r hG (g := g) (b := z.2) (Q := Q) (chi := chi) (K := K) (by_ := by_) (T := z.1))
      (rwq33_5_2r hG (g := g) (b := z.2) (Q := Q) (chi := chi) (K := K) (by_ := by_) (T := z.1))
      (rwq33_5_3r hG (g := g) (b := z.2) (Q := Q) (chi := chi) (K := K) (by_ := by_) (T := z.1))
      (rwq33_5_4r hG (g := g) (b := z.2) (Q := Q) (chi := chi) (K := K) (by_ := by_) (T := z.1))
      (rwq33_5_5r hG (g := g) (b := z.2) (Q := Q) (chi := chi) (K := K) (by_ := by_) (T := z.1))
      i)
    (fun z => rwq33_e5r hG (g := g) (b := z.2) (Q := Q) (chi := chi) (K := K) (by_ := by_) (T := z.1)) z0
theorem rwq33_o5 (g : Gs) (Q : Mx) (chi : Int) (K : Mx) (by_ : R6) (z : Mx × Bool) : RunsTo Tryz.prog 322 rwcRRRRRRRRRRRRRRRRRRRRRRRRLRBB (rwS37 g z.2 5 Q chi K by_ z.1) .normal (rwS37 g ((rwF33 F g Q K 5 z).2) 6 Q chi K by_ ((rwF33 F g Q K 5 z).1)) := by
  rw [rwq33_is]
  exact (rwq33_h5r hG (g := g) (b := z.2) (Q := Q) (chi := chi) (K := K) (by_ := by_) (T := z.1)).seq (RunsTo.seq (RunsTo.block ((rwq33_j5r hG (g := g) (b := z.2) (Q := Q) (chi := chi) (K := K) (by_ := by_) (T := z.1)).seq (rwq33_i5 hG (g := g) (Q := Q) (chi := chi) (K := K) (by_ := by_) (z0 := z))) (.inl rfl)) (rwq33_p5r hG (g := g) (b := (rwF33 F g Q K 5 z).2) (Q := Q) (chi := chi) (K := K) (by_ := by_) (T := (rwF33 F g Q K 5 z).1)))
theorem rwq33_xr (g : Gs) (b : Bool) (Q : Mx) (chi : Int) (K : Mx) (by_ : R6) (T : Mx) : RunsTo Tryz.prog 322 rwcRRRRRRRRRRRRRRRRRRRRRRRRLRBB (rwS37 g b 6 Q chi K by_ T) (.exit 18) (rwS39 g b chi by_ T) := gCut_runs hG (rwq33_x (F := F) (g := g) (b := b) (Q := Q) (chi := chi) (K := K) (by_ := by_) (T := T)) rfl (rwS39_k ..) rfl
theorem rwq33_l (g : Gs) (Q : Mx) (chi : Int) (K : Mx) (by_ : R6) (z0 : Mx × Bool) : RunsTo Tryz.prog 322 (.block 18 (.loop rwcRRRRRRRRRRRRRRRRRRRRRRRRLRBB)) (rwS37 g z0.2 0 Q chi K by_ z0.1) .normal (rwS39 g ((iterF (rwF33 F g Q K) 0 6 z0).2) chi by_ ((iterF (rwF33 F g Q K) 0 6 z0).1)) :=
  RunsTo.rounds (P := Tryz.prog) (N := 322) (c := rwcRRRRRRRRRRRRRRRRRRRRRRRRLRBB) (id := 18) 6 (fun i z => (rwS37 g z.2 (i : Nat) Q chi K by_ z.1)) (fun z => (rwS39 g z.2 chi by_ z.1)) (rwF33 F g Q K)
    (fun i z => below6 (p := fun i => RunsTo Tryz.prog 322 rwcRRRRRRRRRRRRRRRRRRRRRRRRLRBB (rwS37 g z.2 (i : Nat) Q chi K by_ z.1) .normal (rwS37 g ((rwF33 F g Q K i z).2) (i + 1 : Nat) Q chi K by_ ((rwF33 F g Q K i z).1)))
      (rwq33_o0 hG (g := g) (Q := Q) (chi := chi) (K := K) (by_ := by_) (z := z))
      (rwq33_o1 hG (g := g) (Q := Q) (chi := chi) (K := K) (by_ := by_) (z := z))
      (rwq33_o2 hG (g := g) (Q := Q) (chi := chi) (K := K) (by_ := by_) (z := z))
      (rwq33_o3 hG (g := g) (Q := Q) (chi := chi) (K := K) (by_ := by_) (z := z))
      (rwq33_o4 hG (g := g) (Q := Q) (chi := chi) (K := K) (by_ := by_) (z := z))
      (rwq33_o5 hG (g := g) (Q := Q) (chi := chi) (K := K) (by_ := by_) (z := z))
      i)
    (fun z => rwq33_xr hG (g := g) (b := z.2) (Q := Q) (chi := chi) (K := K) (by_ := by_) (T := z.1)) z0
theorem rwq34_r (g : Gs) (b : Bool) (chi : Int) (by_ : R6) (T : Mx) : RunsTo Tryz.prog 322 rwcRRRRRRRRRRRRRRRRRRRRRRRRRL (rwS39 g b chi by_ T) .normal (rwS40 g b mx0 chi by_ T) := gRun_runs hG (rwq34 (F := F) (g := g) (b := b) (chi := chi) (by_ := by_) (T := T))
theorem rwq35_r (g : Gs) (b : Bool) (P : Mx) (chi : Int) (by_ : R6) (T : Mx) : RunsTo Tryz.prog 322 rwcRRRRRRRRRRRRRRRRRRRRRRRRRRLL (rwS40 g b P chi by_ T) .normal (rwS41 g b 0 P chi by_ T) := gRun_runs hG (rwq35 (F := F) (g := g) (b := b) (P := P) (chi := chi) (by_ := by_) (T := T))
theorem rwq36_h0r (g : Gs) (b : Bool) (P : Mx) (chi : Int) (by_ : R6) (T : Mx) : RunsTo Tryz.prog 322 rwcRRRRRRRRRRRRRRRRRRRRRRRRRRLRBBL (rwS41 g b 0 P chi by_ T) .normal (rwS41 g b 0 P chi by_ T) := gCut_runs hG (rwq36_h0 (F := F) (g := g) (b := b) (P := P) (chi := chi) (by_ := by_) (T := T)) rfl (rwS41_k ..) rfl
theorem rwq36_j0r (g : Gs) (b : Bool) (P : Mx) (chi : Int) (by_ : R6) (T : Mx) : RunsTo Tryz.prog 322 rwcRRRRRRRRRRRRRRRRRRRRRRRRRRLRBBRLBL (rwS41 g b 0 P chi by_ T) .normal (rwS42 g b 0 0 P chi by_ T) := gCut_runs hG (rwq36_j0 (F := F) (g := g) (b := b) (P := P) (chi := chi) (by_ := by_) (T := T)) rfl (rwS42_k ..) rfl
theorem rwq36_p0r (g : Gs) (b : Bool) (P : Mx) (chi : Int) (by_ : R6) (T : Mx) : RunsTo Tryz.prog 322 rwcRRRRRRRRRRRRRRRRRRRRRRRRRRLRBBRR (rwS41 g b 0 P chi by_ T) .normal (rwS41 g b 1 P chi by_ T) := gCut_runs hG (rwq36_p0 (F := F) (g := g) (b := b) (P := P) (chi := chi) (by_ := by_) (T := T)) rfl (rwS41_k ..) rfl
theorem rwq36_0_0r (g : Gs) (b : Bool) (P : Mx) (chi : Int) (by_ : R6) (T : Mx) : RunsTo Tryz.prog 322 rwcRRRRRRRRRRRRRRRRRRRRRRRRRRLRBBRLBRBB (rwS42 g b 0 0 P chi by_ T) .normal (rwS42 g ((rwG36 F T 0 0 (P, b)).2) 0 1 ((rwG36 F T 0 0 (P, b)).1) chi by_ T) := gCut_runs hG (rwq36_0_0 (F := F) (g := g) (b := b) (P := P) (chi := chi) (by_ := by_) (T := T)) rfl (rwS42_k ..) rfl
theorem rwq36_0_1r (g : Gs) (b : Bool) (P : Mx) (chi : Int) (by_ : R6) (T : Mx) : RunsTo Tryz.prog 322 rwcRRRRRRRRRRRRRRRRRRRRRRRRRRLRBBRLBRBB (rwS42 g b 0 1 P chi by_ T) .normal (rwS42 g ((rwG36 F T 0 1 (P, b)).2) 0 2 ((rwG36 F T 0 1 (P, b)).1) chi by_ T) := gCut_runs hG (rwq36_0_1 (F := F) (g := g) (b := b) (P := P) (chi := chi) (by_ := by_) (T := T)) rfl (rwS42_k ..) rfl
theorem rwq36_0_2r (g : Gs) (b : Bool) (P : Mx) (chi : Int) (by_ : R6) (T : Mx) : RunsTo Tryz.prog 322 rwcRRRRRRRRRRRRRRRRRRRRRRRRRRLRBBRLBRBB (rwS42 g b 0 2 P chi by_ T) .normal (rwS42 g ((rwG36 F T 0 2 (P, b)).2) 0 3 ((rwG36 F T 0 2 (P, b)).1) chi by_ T) := gCut_runs hG (rwq36_0_2 (F := F) (g := g) (b := b) (P := P) (chi := chi) (by_ := by_) (T := T)) rfl (rwS42_k ..) rfl
theorem rwq36_0_3r (g : Gs) (b : Bool) (P : Mx) (chi : Int) (by_ : R6) (T : Mx) : RunsTo Tryz.prog 322 rwcRRRRRRRRRRRRRRRRRRRRRRRRRRLRBBRLBRBB (rwS42 g b 0 3 P chi by_ T) .normal (rwS42 g ((rwG36 F T 0 3 (P, b)).2) 0 4 ((rwG36 F T 0 3 (P, b)).1) chi by_ T) := gCut_runs hG (rwq36_0_3 (F := F) (g := g) (b := b) (P := P) (chi := chi) (by_ := by_) (T := T)) rfl (rwS42_k ..) rfl
theorem rwq36_0_4r (g : Gs) (b : Bool) (P : Mx) (chi : Int) (by_ : R6) (T : Mx) : RunsTo Tryz.prog 322 rwcRRRRRRRRRRRRRRRRRRRRRRRRRRLRBBRLBRBB (rwS42 g b 0 4 P chi by_ T) .normal (rwS42 g ((rwG36 F T 0 4 (P, b)).2) 0 5 ((rwG36 F T 0 4 (P, b)).1) chi by_ T) := gCut_runs hG (rwq36_0_4 (F := F) (g := g) (b := b) (P := P) (chi := chi) (by_ := by_) (T := T)) rfl (rwS42_k ..) rfl
theorem rwq36_0_5r (g : Gs) (b : Bool) (P : Mx) (chi : Int) (by_ : R6) (T : Mx) : RunsTo Tryz.prog 322 rwcRRRRRRRRRRRRRRRRRRRRRRRRRRLRBBRLBRBB (rwS42 g b 0 5 P chi by_ T) .normal (rwS42 g ((rwG36 F T 0 5 (P, b)).2) 0 6 ((rwG36 F T 0 5 (P, b)).1) chi by_ T) := gCut_runs hG (rwq36_0_5 (F := F) (g := g) (b := b) (P := P) (chi := chi) (by_ := by_) (T := T)) rfl (rwS42_k ..) rfl
theorem rwq36_e0r (g : Gs) (b : Bool) (P : Mx) (chi : Int) (by_ : R6) (T : Mx) : RunsTo Tryz.prog 322 rwcRRRRRRRRRRRRRRRRRRRRRRRRRRLRBBRLBRBB (rwS42 g b 0 6 P chi by_ T) (.exit 26) (rwS41 g b 0 P chi by_ T) := gCut_runs hG (rwq36_e0 (F := F) (g := g) (b := b) (P := P) (chi := chi) (by_ := by_) (T := T)) rfl (rwS41_k ..) rfl
theorem rwq36_i0 (g : Gs) (chi : Int) (by_ : R6) (T : Mx) (z0 : Mx × Bool) : RunsTo Tryz.prog 322 (.block 26 (.loop rwcRRRRRRRRRRRRRRRRRRRRRRRRRRLRBBRLBRBB)) (rwS42 g z0.2 0 0 z0.1 chi by_ T) .normal (rwS41 g ((iterF (rwG36 F T 0) 0 6 z0).2) 0 ((iterF (rwG36 F T 0) 0 6 z0).1) chi by_ T) :=
  RunsTo.rounds (P := Tryz.prog) (N := 322) (c := rwcRRRRRRRRRRRRRRRRRRRRRRRRRRLRBBRLBRBB) (id := 26) 6 (fun i z => (rwS42 g z.2 0 (i : Nat) z.1 chi by_ T)) (fun z => (rwS41 g z.2 0 z.1 chi by_ T)) (rwG36 F T 0)
    (fun i z => below6 (p := fun i => RunsTo Tryz.prog 322 rwcRRRRRRRRRRRRRRRRRRRRRRRRRRLRBBRLBRBB (rwS42 g z.2 0 (i : Nat) z.1 chi by_ T) .normal (rwS42 g ((rwG36 F T 0 i z).2) 0 (i + 1 : Nat) ((rwG36 F T 0 i z).1) chi by_ T))
      (rwq36_0_0r hG (g := g) (b := z.2) (P := z.1) (chi := chi) (by_ := by_) (T := T))
      (rwq36_0_1r hG (g := g) (b := z.2) (P := z.1) (chi := chi) (by_ := by_) (T := T))
      (rwq36_0_2r hG (g := g) (b := z.2) (P := z.1) (chi := chi) (by_ := by_) (T := T))
      (rwq36_0_3r hG (g := g) (b := z.2) (P := z.1) (chi := chi) (by_ := by_) (T := T))
      (rwq36_0_4r hG (g := g) (b := z.2) (P := z.1) (chi := chi) (by_ := by_) (T := T))
      (rwq36_0_5r hG (g := g) (b := z.2) (P := z.1) (chi := chi) (by_ := by_) (T := T))
      i)
    (fun z => rwq36_e0r hG (g := g) (b := z.2) (P := z.1) (chi := chi) (by_ := by_) (T := T)) z0
theorem rwq36_o0 (g : Gs) (chi : Int) (by_ : R6) (T : Mx) (z : Mx × Bool) : RunsTo Tryz.prog 322 rwcRRRRRRRRRRRRRRRRRRRRRRRRRRLRBB (rwS41 g z.2 0 z.1 chi by_ T) .normal (rwS41 g ((rwF36 F T 0 z).2) 1 ((rwF36 F T 0 z).1) chi by_ T) := by
  rw [rwq36_is]
  exact (rwq36_h0r hG (g := g) (b := z.2) (P := z.1) (chi := chi) (by_ := by_) (T := T)).seq (RunsTo.seq (RunsTo.block ((rwq36_j0r hG (g := g) (b := z.2) (P := z.1) (chi := chi) (by_ := by_) (T := T)).seq (rwq36_i0 hG (g := g) (chi := chi) (by_ := by_) (T := T) (z0 := z))) (.inl rfl)) (rwq36_p0r hG (g := g) (b := (rwF36 F T 0 z).2) (P := (rwF36 F T 0 z).1) (chi := chi) (by_ := by_) (T := T)))
theorem rwq36_h1r (g : Gs) (b : Bool) (P : Mx) (chi : Int) (by_ : R6) (T : Mx) : RunsTo Tryz.prog 322 rwcRRRRRRRRRRRRRRRRRRRRRRRRRRLRBBL (rwS41 g b 1 P chi by_ T) .normal (rwS41 g b 1 P chi by_ T) := gCut_runs hG (rwq36_h1 (F := F) (g := g) (b := b) (P := P) (chi := chi) (by_ := by_) (T := T)) rfl (rwS41_k ..) rfl
theorem rwq36_j1r (g : Gs) (b : Bool) (P : Mx) (chi : Int) (by_ : R6) (T : Mx) : RunsTo Tryz.prog 322 rwcRRRRRRRRRRRRRRRRRRRRRRRRRRLRBBRLBL (rwS41 g b 1 P chi by_ T) .normal (rwS42 g b 1 0 P chi by_ T) := gCut_runs hG (rwq36_j1 (F := F) (g := g) (b := b) (P := P) (chi := chi) (by_ := by_) (T := T)) rfl (rwS42_k ..) rfl
theorem rwq36_p1r (g : Gs) (b : Bool) (P : Mx) (chi : Int) (by_ : R6) (T : Mx) : RunsTo Tryz.prog 322 rwcRRRRRRRRRRRRRRRRRRRRRRRRRRLRBBRR (rwS41 g b 1 P chi by_ T) .normal (rwS41 g b 2 P chi by_ T) := gCut_runs hG (rwq36_p1 (F := F) (g := g) (b := b) (P := P) (chi := chi) (by_ := by_) (T := T)) rfl (rwS41_k ..) rfl
theorem rwq36_1_0r (g : Gs) (b : Bool) (P : Mx) (chi : Int) (by_ : R6) (T : Mx) : RunsTo Tryz.prog 322 rwcRRRRRRRRRRRRRRRRRRRRRRRRRRLRBBRLBRBB (rwS42 g b 1 0 P chi by_ T) .normal (rwS42 g ((rwG36 F T 1 0 (P, b)).2) 1 1 ((rwG36 F T 1 0 (P, b)).1) chi by_ T) := gCut_runs hG (rwq36_1_0 (F := F) (g := g) (b := b) (P := P) (chi := chi) (by_ := by_) (T := T)) rfl (rwS42_k ..) rfl
theorem rwq36_1_1r (g : Gs) (b : Bool) (P : Mx) (chi : Int) (by_ : R6) (T : Mx) : RunsTo Tryz.prog 322 rwcRRRRRRRRRRRRRRRRRRRRRRRRRRLRBBRLBRBB (rwS42 g b 1 1 P chi by_ T) .normal (rwS42 g ((rwG36 F T 1 1 (P, b)).2) 1 2 ((rwG36 F T 1 1 (P, b)).1) chi by_ T) := gCut_runs hG (rwq36_1_1 (F := F) (g := g) (b := b) (P := P) (chi := chi) (by_ := by_) (T := T)) rfl (rwS42_k ..) rfl
theorem rwq36_1_2r (g : Gs) (b : Bool) (P : Mx) (chi : Int) (by_ : R6) (T : Mx) : RunsTo Tryz.prog 322 rwcRRRRRRRRRRRRRRRRRRRRRRRRRRLRBBRLBRBB (rwS42 g b 1 2 P chi by_ T) .normal (rwS42 g ((rwG36 F T 1 2 (P, b)).2) 1 3 ((rwG36 F T 1 2 (P, b)).1) chi by_ T) := gCut_runs hG (rwq36_1_2 (F := F) (g := g) (b := b) (P := P) (chi := chi) (by_ := by_) (T := T)) rfl (rwS42_k ..) rfl
theorem rwq36_1_3r (g : Gs) (b : Bool) (P : Mx) (chi : Int) (by_ : R6) (T : Mx) : RunsTo Tryz.prog 322 rwcRRRRRRRRRRRRRRRRRRRRRRRRRRLRBBRLBRBB (rwS42 g b 1 3 P chi by_ T) .normal (rwS42 g ((rwG36 F T 1 3 (P, b)).2) 1 4 ((rwG36 F T 1 3 (P, b)).1) chi by_ T) := gCut_runs hG (rwq36_1_3 (F := F) (g := g) (b := b) (P := P) (chi := chi) (by_ := by_) (T := T)) rfl (rwS42_k ..) rfl
theorem rwq36_1_4r (g : Gs) (b : Bool) (P : Mx) (chi : Int) (by_ : R6) (T : Mx) : RunsTo Tryz.prog 322 rwcRRRRRRRRRRRRRRRRRRRRRRRRRRLRBBRLBRBB (rwS42 g b 1 4 P chi by_ T) .normal (rwS42 g ((rwG36 F T 1 4 (P, b)).2) 1 5 ((rwG36 F T 1 4 (P, b)).1) chi by_ T) := gCut_runs hG (rwq36_1_4 (F := F) (g := g) (b := b) (P := P) (chi := chi) (by_ := by_) (T := T)) rfl (rwS42_k ..) rfl
theorem rwq36_1_5r (g : Gs) (b : Bool) (P : Mx) (chi : Int) (by_ : R6) (T : Mx) : RunsTo Tryz.prog 322 rwcRRRRRRRRRRRRRRRRRRRRRRRRRRLRBBRLBRBB (rwS42 g b 1 5 P chi by_ T) .normal (rwS42 g ((rwG36 F T 1 5 (P, b)).2) 1 6 ((rwG36 F T 1 5 (P, b)).1) chi by_ T) := gCut_runs hG (rwq36_1_5 (F := F) (g := g) (b := b) (P := P) (chi := chi) (by_ := by_) (T := T)) rfl (rwS42_k ..) rfl
theorem rwq36_e1r (g : Gs) (b : Bool) (P : Mx) (chi : Int) (by_ : R6) (T : Mx) : RunsTo Tryz.prog 322 rwcRRRRRRRRRRRRRRRRRRRRRRRRRRLRBBRLBRBB (rwS42 g b 1 6 P chi by_ T) (.exit 26) (rwS41 g b 1 P chi by_ T) := gCut_runs hG (rwq36_e1 (F := F) (g := g) (b := b) (P := P) (chi := chi) (by_ := by_) (T := T)) rfl (rwS41_k ..) rfl
theorem rwq36_i1 (g : Gs) (chi : Int) (by_ : R6) (T : Mx) (z0 : Mx × Bool) : RunsTo Tryz.prog 322 (.block 26 (.loop rwcRRRRRRRRRRRRRRRRRRRRRRRRRRLRBBRLBRBB)) (rwS42 g z0.2 1 0 z0.1 chi by_ T) .normal (rwS41 g ((iterF (rwG36 F T 1) 0 6 z0).2) 1 ((iterF (rwG36 F T 1) 0 6 z0).1) chi by_ T) :=
  RunsTo.rounds (P := Tryz.prog) (N := 322) (c := rwcRRRRRRRRRRRRRRRRRRRRRRRRRRLRBBRLBRBB) (id := 26) 6 (fun i z => (rwS42 g z.2 1 (i : Nat) z.1 chi by_ T)) (fun z => (rwS41 g z.2 1 z.1 chi by_ T)) (rwG36 F T 1)
    (fun i z => below6 (p := fun i => RunsTo Tryz.prog 322 rwcRRRRRRRRRRRRRRRRRRRRRRRRRRLRBBRLBRBB (rwS42 g z.2 1 (i : Nat) z.1 chi by_ T) .normal (rwS42 g ((rwG36 F T 1 i z).2) 1 (i + 1 : Nat) ((rwG36 F T 1 i z).1) chi by_ T))
      (rwq36_1_0r hG (g := g) (b := z.2) (P := z.1) (chi := chi) (by_ := by_) (T := T))
      (rwq36_1_1r hG (g := g) (b := z.2) (P := z.1) (chi := chi) (by_ := by_) (T := T))
      (rwq36_1_2r hG (g := g) (b := z.2) (P := z.1) (chi := chi) (by_ := by_) (T := T))
      (rwq36_1_3r hG (g := g) (b := z.2) (P := z.1) (chi := chi) (by_ := by_) (T := T))
      (rwq36_1_4r hG (g := g) (b := z.2) (P := z.1) (chi := chi) (by_ := by_) (T := T))
      (rwq36_1_5r hG (g := g) (b := z.2) (P := z.1) (chi := chi) (by_ := by_) (T := T))
      i)
    (fun z => rwq36_e1r hG (g := g) (b := z.2) (P := z.1) (chi := chi) (by_ := by_) (T := T)) z0
theorem rwq36_o1 (g : Gs) (chi : Int) (by_ : R6) (T : Mx) (z : Mx × Bool) : RunsTo Tryz.prog 322 rwcRRRRRRRRRRRRRRRRRRRRRRRRRRLRBB (rwS41 g z.2 1 z.1 chi by_ T) .normal (rwS41 g ((rwF36 F T 1 z).2) 2 ((rwF36 F T 1 z).1) chi by_ T) := by
  rw [rwq36_is]
  exact (rwq36_h1r hG (g := g) (b := z.2) (P := z.1) (chi := chi) (by_ := by_) (T := T)).seq (RunsTo.seq (RunsTo.block ((rwq36_j1r hG (g := g) (b := z.2) (P := z.1) (chi := chi) (by_ := by_) (T := T)).seq (rwq36_i1 hG (g := g) (chi := chi) (by_ := by_) (T := T) (z0 := z))) (.inl rfl)) (rwq36_p1r hG (g := g) (b := (rwF36 F T 1 z).2) (P := (rwF36 F T 1 z).1) (chi := chi) (by_ := by_) (T := T)))
theorem rwq36_h2r (g : Gs) (b : Bool) (P : Mx) (chi : Int) (by_ : R6) (T : Mx) : RunsTo Tryz.prog 322 rwcRRRRRRRRRRRRRRRRRRRRRRRRRRLRBBL (rwS41 g b 2 P chi by_ T) .normal (rwS41 g b 2 P chi by_ T) := gCut_runs hG (rwq36_h2 (F := F) (g := g) (b := b) (P := P) (chi := chi) (by_ := by_) (T := T)) rfl (rwS41_k ..) rfl
theorem rwq36_j2r (g : Gs) (b : Bool) (P : Mx) (chi : Int) (by_ : R6) (T : Mx) : RunsTo Tryz.prog 322 rwcRRRRRRRRRRRRRRRRRRRRRRRRRRLRBBRLBL (rwS41 g b 2 P chi by_ T) .normal (rwS42 g b 2 0 P chi by_ T) := gCut_runs hG (rwq36_j2 (F := F) (g := g) (b := b) (P := P) (chi := chi) (by_ := by_) (T := T)) rfl (rwS42_k ..) rfl
theorem rwq36_p2r (g : Gs) (b : Bool) (P : Mx) (chi : Int) (by_ : R6) (T : Mx) : RunsTo Tryz.prog 322 rwcRRRRRRRRRRRRRRRRRRRRRRRRRRLRBBRR (rwS41 g b 2 P chi by_ T) .normal (rwS41 g b 3 P chi by_ T) := gCut_runs hG (rwq36_p2 (F := F) (g := g) (b := b) (P := P) (chi := chi) (by_ := by_) (T := T)) rfl (rwS41_k ..) rfl
theorem rwq36_2_0r (g : Gs) (b : Bool) (P : Mx) (chi : Int) (by_ : R6) (T : Mx) : RunsTo Tryz.prog 322 rwcRRRRRRRRRRRRRRRRRRRRRRRRRRLRBBRLBRBB (rwS42 g b 2 0 P chi by_ T) .normal (rwS42 g ((rwG36 F T 2 0 (P, b)).2) 2 1 ((rwG36 F T 2 0 (P, b)).1) chi by_ T) := gCut_runs hG (rwq36_2_0 (F := F) (g := g) (b := b) (P := P) (chi := chi) (by_ := by_) (T := T)) rfl (rwS42_k ..) rfl
theorem rwq36_2_1r (g : Gs) (b : Bool) (P : Mx) (chi : Int) (by_ : R6) (T : Mx) : RunsTo Tryz.prog 322 rwcRRRRRRRRRRRRRRRRRRRRRRRRRRLRBBRLBRBB (rwS42 g b 2 1 P chi by_ T) .normal (rwS42 g ((rwG36 F T 2 1 (P, b)).2) 2 2 ((rwG36 F T 2 1 (P, b)).1) chi by_ T) := gCut_runs hG (rwq36_2_1 (F := F) (g := g) (b := b) (P := P) (chi := chi) (by_ := by_) (T := T)) rfl (rwS42_k ..) rfl
theorem rwq36_2_2r (g : Gs) (b : Bool) (P : Mx) (chi : Int) (by_ : R6) (T : Mx) : RunsTo Tryz.prog 322 rwcRRRRRRRRRRRRRRRRRRRRRRRRRRLRBBRLBRBB (rwS42 g b 2 2 P chi by_ T) .normal (rwS42 g ((rwG36 F T 2 2 (P, b)).2) 2 3 ((rwG36 F T 2 2 (P, b)).1) chi by_ T) := gCut_runs hG (rwq36_2_2 (F := F) (g := g) (b := b) (P := P) (chi := chi) (by_ := by_) (T := T)) rfl (rwS42_k ..) rfl
theorem rwq36_2_3r (g : Gs) (b : Bool) (P : Mx) (chi : Int) (by_ : R6) (T : Mx) : RunsTo Tryz.prog 322 rwcRRRRRRRRRRRRRRRRRRRRRRRRRRLRBBRLBRBB (rwS42 g b 2 3 P chi by_ T) .normal (rwS42 g ((rwG36 F T 2 3 (P, b)).2) 2 4 ((rwG36 F T 2 3 (P, b)).1) chi by_ T) := gCut_runs hG (rwq36_2_3 (F := F) (g := g) (b := b) (P := P) (chi := chi) (by_ := by_) (T := T)) rfl (rwS42_k ..) rfl
theorem rwq36_2_4r (g : Gs) (b : Bool) (P : Mx) (chi : Int) (by_ : R6) (T : Mx) : RunsTo Tryz.prog 322 rwcRRRRRRRRRRRRRRRRRRRRRRRRRRLRBBRLBRBB (rwS42 g b 2 4 P chi by_ T) .normal (rwS42 g ((rwG36 F T 2 4 (P, b)).2) 2 5 ((rwG36 F T 2 4 (P, b)).1) chi by_ T) := gCut_runs hG (rwq36_2_4 (F := F) (g := g) (b := b) (P := P) (chi := chi) (by_ := by_) (T := T)) rfl (rwS42_k ..) rfl
theorem rwq36_2_5r (g : Gs) (b : Bool) (P : Mx) (chi : Int) (by_ : R6) (T : Mx) : RunsTo Tryz.prog 322 rwcRRRRRRRRRRRRRRRRRRRRRRRRRRLRBBRLBRBB (rwS42 g b 2 5 P chi by_ T) .normal (rwS42 g ((rwG36 F T 2 5 (P, b)).2) 2 6 ((rwG36 F T 2 5 (P, b)).1) chi by_ T) := gCut_runs hG (rwq36_2_5 (F := F) (g := g) (b := b) (P := P) (chi := chi) (by_ := by_) (T := T)) rfl (rwS42_k ..) rfl
theorem rwq36_e2r (g : Gs) (b : Bool) (P : Mx) (chi : Int) (by_ : R6) (T : Mx) : RunsTo Tryz.prog 322 rwcRRRRRRRRRRRRRRRRRRRRRRRRRRLRBBRLBRBB (rwS42 g b 2 6 P chi by_ T) (.exit 26) (rwS41 g b 2 P chi by_ T) := gCut_runs hG (rwq36_e2 (F := F) (g := g) (b := b) (P := P) (chi := chi) (by_ := by_) (T := T)) rfl (rwS41_k ..) rfl
theorem rwq36_i2 (g : Gs) (chi : Int) (by_ : R6) (T : Mx) (z0 : Mx × Bool) : RunsTo Tryz.prog 322 (.block 26 (.loop rwcRRRRRRRRRRRRRRRRRRRRRRRRRRLRBBRLBRBB)) (rwS42 g z0.2 2 0 z0.1 chi by_ T) .normal (rwS41 g ((iterF (rwG36 F T 2) 0 6 z0).2) 2 ((iterF (rwG36 F T 2) 0 6 z0).1) chi by_ T) :=
  RunsTo.rounds (P := Tryz.prog) (N := 322) (c := rwcRRRRRRRRRRRRRRRRRRRRRRRRRRLRBBRLBRBB) (id := 26) 6 (fun i z => (rwS42 g z.2 2 (i : Nat) z.1 chi by_ T)) (fun z => (rwS41 g z.2 2 z.1 chi by_ T)) (rwG36 F T 2)
    (fun i z => below6 (p := fun i => RunsTo Tryz.prog 322 rwcRRRRRRRRRRRRRRRRRRRRRRRRRRLRBBRLBRBB (rwS42 g z.2 2 (i : Nat) z.1 chi by_ T) .normal (rwS42 g ((rwG36 F T 2 i z).2) 2 (i + 1 : Nat) ((rwG36 F T 2 i z).1) chi by_ T))
      (rwq36_2_0r hG (g := g) (b := z.2) (P := z.1) (chi := chi) (by_ := by_) (T := T))
      (rwq36_2_1r hG (g := g) (b := z.2) (P := z.1) (chi := chi) (by_ := by_) (T := T))
      (rwq36_2_2r hG (g := g) (b := z.2) (P := z.1) (chi := chi) (by_ := by_) (T := T))
      (rwq36_2_3r hG (g := g) (b := z.2) (P := z.1) (chi := chi) (by_ := by_) (T := T))
      (rwq36_2_4r hG (g := g) (b := z.2) (P := z.1) (chi := chi) (by_ := by_) (T := T))
      (rwq36_2_5r hG (g := g) (b := z.2) (P := z.1) (chi := chi) (by_ := by_) (T := T))
      i)
    (fun z => rwq36_e2r hG (g := g) (b := z.2) (P := z.1) (chi := chi) (by_ := by_) (T := T)) z0
theorem rwq36_o2 (g : Gs) (chi : Int) (by_ : R6) (T : Mx) (z : Mx × Bool) : RunsTo Tryz.prog 322 rwcRRRRRRRRRRRRRRRRRRRRRRRRRRLRBB (rwS41 g z.2 2 z.1 chi by_ T) .normal (rwS41 g ((rwF36 F T 2 z).2) 3 ((rwF36 F T 2 z).1) chi by_ T) := by
  rw [rwq36_is]
  exact (rwq36_h2r hG (g := g) (b := z.2) (P := z.1) (chi := chi) (by_ := by_) (T := T)).seq (RunsTo.seq (RunsTo.block ((rwq36_j2r hG (g := g) (b := z.2) (P := z.1) (chi := chi) (by_ := by_) (T := T)).seq (rwq36_i2 hG (g := g) (chi := chi) (by_ := by_) (T := T) (z0 := z))) (.inl rfl)) (rwq36_p2r hG (g := g) (b := (rwF36 F T 2 z).2) (P := (rwF36 F T 2 z).1) (chi := chi) (by_ := by_) (T := T)))
theorem rwq36_h3r (g : Gs) (b : Bool) (P : Mx) (chi : Int) (by_ : R6) (T : Mx) : RunsTo Tryz.prog 322 rwcRRRRRRRRRRRRRRRRRRRRRRRRRRLRBBL (rwS41 g b 3 P chi by_ T) .normal (rwS41 g b 3 P chi by_ T) := gCut_runs hG (rwq36_h3 (F := F) (g := g) (b := b) (P := P) (chi := chi) (by_ := by_) (T := T)) rfl (rwS41_k ..) rfl
theorem rwq36_j3r (g : Gs) (b : Bool) (P : Mx) (chi : Int) (by_ : R6) (T : Mx) : RunsTo Tryz.prog 322 rwcRRRRRRRRRRRRRRRRRRRRRRRRRRLRBBRLBL (rwS41 g b 3 P chi by_ T) .normal (rwS42 g b 3 0 P chi by_ T) := gCut_runs hG (rwq36_j3 (F := F) (g := g) (b := b) (P := P) (chi := chi) (by_ := by_) (T := T)) rfl (rwS42_k ..) rfl
theorem rwq36_p3r (g : Gs) (b : Bool) (P : Mx) (chi : Int) (by_ : R6) (T : Mx) : RunsTo Tryz.prog 322 rwcRRRRRRRRRRRRRRRRRRRRRRRRRRLRBBRR (rwS41 g b 3 P chi by_ T) .normal (rwS41 g b 4 P chi by_ T) := gCut_runs hG (rwq36_p3 (F := F) (g := g) (b := b) (P := P) (chi := chi) (by_ := by_) (T := T)) rfl (rwS41_k ..) rfl
theorem rwq36_3_0r (g : Gs) (b : Bool) (P : Mx) (chi : Int) (by_ : R6) (T : Mx) : RunsTo Tryz.prog 322 rwcRRRRRRRRRRRRRRRRRRRRRRRRRRLRBBRLBRBB (rwS42 g b 3 0 P chi by_ T) .normal (rwS42 g ((rwG36 F T 3 0 (P, b)).2) 3 1 ((rwG36 F T 3 0 (P, b)).1) chi by_ T) := gCut_runs hG (rwq36_3_0 (F := F) (g := g) (b := b) (P := P) (chi := chi) (by_ := by_) (T := T)) rfl (rwS42_k ..) rfl
theorem rwq36_3_1r (g : Gs) (b : Bool) (P : Mx) (chi : Int) (by_ : R6) (T : Mx) : RunsTo Tryz.prog 322 rwcRRRRRRRRRRRRRRRRRRRRRRRRRRLRBBRLBRBB (rwS42 g b 3 1 P chi by_ T) .normal (rwS42 g ((rwG36 F T 3 1 (P, b)).2) 3 2 ((rwG36 F T 3 1 (P, b)).1) chi by_ T) := gCut_runs hG (rwq36_3_1 (F := F) (g := g) (b := b) (P := P) (chi := chi) (by_ := by_) (T := T)) rfl (rwS42_k ..) rfl
theorem rwq36_3_2r (g : Gs) (b : Bool) (P : Mx) (chi : Int) (by_ : R6) (T : Mx) : RunsTo Tryz.prog 322 rwcRRRRRRRRRRRRRRRRRRRRRRRRRRLRBBRLBRBB (rwS42 g b 3 2 P chi by_ T) .normal (rwS42 g ((rwG36 F T 3 2 (P, b)).2) 3 3 ((rwG36 F T 3 2 (P, b)).1) chi by_ T) := gCut_runs hG (rwq36_3_2 (F := F) (g := g) (b := b) (P := P) (chi := chi) (by_ := by_) (T := T)) rfl (rwS42_k ..) rfl
theorem rwq36_3_3r (g : Gs) (b : Bool) (P : Mx) (chi : Int) (by_ : R6) (T : Mx) : RunsTo Tryz.prog 322 rwcRRRRRRRRRRRRRRRRRRRRRRRRRRLRBBRLBRBB (rwS42 g b 3 3 P chi by_ T) .normal (rwS42 g ((rwG36 F T 3 3 (P, b)).2) 3 4 ((rwG36 F T 3 3 (P, b)).1) chi by_ T) := gCut_runs hG (rwq36_3_3 (F := F) (g := g) (b := b) (P := P) (chi := chi) (by_ := by_) (T := T)) rfl (rwS42_k ..) rfl
theorem rwq36_3_4r (g : Gs) (b : Bool) (P : Mx) (chi : Int) (by_ : R6) (T : Mx) : RunsTo Tryz.prog 322 rwcRRRRRRRRRRRRRRRRRRRRRRRRRRLRBBRLBRBB (rwS42 g b 3 4 P chi by_ T) .normal (rwS42 g ((rwG36 F T 3 4 (P, b)).2) 3 5 ((rwG36 F T 3 4 (P, b)).1) chi by_ T) := gCut_runs hG (rwq36_3_4 (F := F) (g := g) (b := b) (P := P) (chi := chi) (by_ := by_) (T := T)) rfl (rwS42_k ..) rfl
theorem rwq36_3_5r (g : Gs) (b : Bool) (P : Mx) (chi : Int) (by_ : R6) (T : Mx) : RunsTo Tryz.prog 322 rwcRRRRRRRRRRRRRRRRRRRRRRRRRRLRBBRLBRBB (rwS42 g b 3 5 P chi by_ T) .normal (rwS42 g ((rwG36 F T 3 5 (P, b)).2) 3 6 ((rwG36 F T 3 5 (P, b)).1) chi by_ T) := gCut_runs hG (rwq36_3_5 (F := F) (g := g) (b := b) (P := P) (chi := chi) (by_ := by_) (T := T)) rfl (rwS42_k ..) rfl
theorem rwq36_e3r (g : Gs) (b : Bool) (P : Mx) (chi : Int) (by_ : R6) (T : Mx) : RunsTo Tryz.prog 322 rwcRRRRRRRRRRRRRRRRRRRRRRRRRRLRBBRLBRBB (rwS42 g b 3 6 P chi by_ T) (.exit 26) (rwS41 g b 3 P chi by_ T) := gCut_runs hG (rwq36_e3 (F := F) (g := g) (b := b) (P := P) (chi := chi) (by_ := by_) (T := T)) rfl (rwS41_k ..) rfl
theorem rwq36_i3 (g : Gs) (chi : Int) (by_ : R6) (T : Mx) (z0 : Mx × Bool) : RunsTo Tryz.prog 322 (.block 26 (.loop rwcRRRRRRRRRRRRRRRRRRRRRRRRRRLRBBRLBRBB)) (rwS42 g z0.2 3 0 z0.1 chi by_ T) .normal (rwS41 g ((iterF (rwG36 F T 3) 0 6 z0).2) 3 ((iterF (rwG36 F T 3) 0 6 z0).1) chi by_ T) :=
  RunsTo.rounds (P := Tryz.prog) (N := 322) (c := rwcRRRRRRRRRRRRRRRRRRRRRRRRRRLRBBRLBRBB) (id := 26) 6 (fun i z => (rwS42 g z.2 3 (i : Nat) z.1 chi by_ T)) (fun z => (rwS41 g z.2 3 z.1 chi by_ T)) (rwG36 F T 3)
    (fun i z => below6 (p := fun i => RunsTo Tryz.prog 322 rwcRRRRRRRRRRRRRRRRRRRRRRRRRRLRBBRLBRBB (rwS42 g z.2 3 (i : Nat) z.1 chi by_ T) .normal (rwS42 g ((rwG36 F T 3 i z).2) 3 (i + 1 : Nat) ((rwG36 F T 3 i z).1) chi by_ T))
      (rwq36_3_0r hG (g := g) (b := z.2) (P := z.1) (chi := chi) (by_ := by_) (T := T))
      (rwq36_3_1r hG (g := g) (b := z.2) (P := z.1) (chi := chi) (by_ := by_) (T := T))
      (rwq36_3_2r hG (g := g) (b := z.2) (P := z.1) (chi := chi) (by_ := by_) (T := T))
      (rwq36_3_3r hG (g := g) (b := z.2) (P := z.1) (chi := chi) (by_ := by_) (T := T))
      (rwq36_3_4r hG (g := g) (b := z.2) (P := z.1) (chi := chi) (by_ := by_) (T := T))
      (rwq36_3_5r hG (g := g) (b := z.2) (P := z.1) (chi := chi) (by_ := by_) (T := T))
      i)
    (fun z => rwq36_e3r hG (g := g) (b := z.2) (P := z.1) (chi := chi) (by_ := by_) (T := T)) z0
theorem rwq36_o3 (g : Gs) (chi : Int) (by_ : R6) (T : Mx) (z : Mx × Bool) : RunsTo Tryz.prog 322 rwcRRRRRRRRRRRRRRRRRRRRRRRRRRLRBB (rwS41 g z.2 3 z.1 chi by_ T) .normal (rwS41 g ((rwF36 F T 3 z).2) 4 ((rwF36 F T 3 z).1) chi by_ T) := by
  rw [rwq36_is]
  exact (rwq36_h3r hG (g := g) (b := z.2) (P := z.1) (chi := chi) (by_ := by_) (T := T)).seq (RunsTo.seq (RunsTo.block ((rwq36_j3r hG (g := g) (b := z.2) (P := z.1) (chi := chi) (by_ := by_) (T := T)).seq (rwq36_i3 hG (g := g) (chi := chi) (by_ := by_) (T := T) (z0 := z))) (.inl rfl)) (rwq36_p3r hG (g := g) (b := (rwF36 F T 3 z).2) (P := (rwF36 F T 3 z).1) (chi := chi) (by_ := by_) (T := T)))
theorem rwq36_h4r (g : Gs) (b : Bool) (P : Mx) (chi : Int) (by_ : R6) (T : Mx) : RunsTo Tryz.prog 322 rwcRRRRRRRRRRRRRRRRRRRRRRRRRRLRBBL (rwS41 g b 4 P chi by_ T) .normal (rwS41 g b 4 P chi by_ T) := gCut_runs hG (rwq36_h4 (F := F) (g := g) (b := b) (P := P) (chi := chi) (by_ := by_) (T := T)) rfl (rwS41_k ..) rfl
theorem rwq36_j4r (g : Gs) (b : Bool) (P : Mx) (chi : Int) (by_ : R6) (T : Mx) : RunsTo Tryz.prog 322 rwcRRRRRRRRRRRRRRRRRRRRRRRRRRLRBBRLBL (rwS41 g b 4 P chi by_ T) .normal (rwS42 g b 4 0 P chi by_ T) := gCut_runs hG (rwq36_j4 (F := F) (g := g) (b := b) (P := P) (chi := chi) (by_ := by_) (T := T)) rfl (rwS42_k ..) rfl
theorem rwq36_p4r (g : Gs) (b : Bool) (P : Mx) (chi : Int) (by_ : R6) (T : Mx) : RunsTo Tryz.prog 322 rwcRRRRRRRRRRRRRRRRRRRRRRRRRRLRBBRR (rwS41 g b 4 P chi by_ T) .normal (rwS41 g b 5 P chi by_ T) := gCut_runs hG (rwq36_p4 (F := F) (g := g) (b := b) (P := P) (chi := chi) (by_ := by_) (T := T)) rfl (rwS41_k ..) rfl
theorem rwq36_4_0r (g : Gs) (b : Bool) (P : Mx) (chi : Int) (by_ : R6) (T : Mx) : RunsTo Tryz.prog 322 rwcRRRRRRRRRRRRRRRRRRRRRRRRRRLRBBRLBRBB (rwS42 g b 4 0 P chi by_ T) .normal (rwS42 g ((rwG36 F T 4 0 (P, b)).2) 4 1 ((rwG36 F T 4 0 (P, b)).1) chi by_ T) := gCut_runs hG (rwq36_4_0 (F := F) (g := g) (b := b) (P := P) (chi := chi) (by_ := by_) (T := T)) rfl (rwS42_k ..) rfl
theorem rwq36_4_1r (g : Gs) (b : Bool) (P : Mx) (chi : Int) (by_ : R6) (T : Mx) : RunsTo Tryz.prog 322 rwcRRRRRRRRRRRRRRRRRRRRRRRRRRLRBBRLBRBB (rwS42 g b 4 1 P chi by_ T) .normal (rwS42 g ((rwG36 F T 4 1 (P, b)).2) 4 2 ((rwG36 F T 4 1 (P, b)).1) chi by_ T) := gCut_runs hG (rwq36_4_1 (F := F) (g := g) (b := b) (P := P) (chi := chi) (by_ := by_) (T := T)) rfl (rwS42_k ..) rfl
theorem rwq36_4_2r (g : Gs) (b : Bool) (P : Mx) (chi : Int) (by_ : R6) (T : Mx) : RunsTo Tryz.prog 322 rwcRRRRRRRRRRRRRRRRRRRRRRRRRRLRBBRLBRBB (rwS42 g b 4 2 P chi by_ T) .normal (rwS42 g ((rwG36 F T 4 2 (P, b)).2) 4 3 ((rwG36 F T 4 2 (P, b)).1) chi by_ T) := gCut_runs hG (rwq36_4_2 (F := F) (g := g) (b := b) (P := P) (chi := chi) (by_ := by_) (T := T)) rfl (rwS42_k ..) rfl
theorem rwq36_4_3r (g : Gs) (b : Bool) (P : Mx) (chi : Int) (by_ : R6) (T : Mx) : RunsTo Tryz.prog 322 rwcRRRRRRRRRRRRRRRRRRRRRRRRRRLRBBRLBRBB (rwS42 g b 4 3 P chi by_ T) .normal (rwS42 g ((rwG36 F T 4 3 (P, b)).2) 4 4 ((rwG36 F T 4 3 (P, b)).1) chi by_ T) := gCut_runs hG (rwq36_4_3 (F := F) (g := g) (b := b) (P := P) (chi := chi) (by_ := by_) (T := T)) rfl (rwS42_k ..) rfl
theorem rwq36_4_4r (g : Gs) (b : Bool) (P : Mx) (chi : Int) (by_ : R6) (T : Mx) : RunsTo Tryz.prog 322 rwcRRRRRRRRRRRRRRRRRRRRRRRRRRLRBBRLBRBB (rwS42 g b 4 4 P chi by_ T) .normal (rwS42 g ((rwG36 F T 4 4 (P, b)).2) 4 5 ((rwG36 F T 4 4 (P, b)).1) chi by_ T) := gCut_runs hG (rwq36_4_4 (F := F) (g := g) (b := b) (P := P) (chi := chi) (by_ := by_) (T := T)) rfl (rwS42_k ..) rfl
theorem rwq36_4_5r (g : Gs) (b : Bool) (P : Mx) (chi : Int) (by_ : R6) (T : Mx) : RunsTo Tryz.prog 322 rwcRRRRRRRRRRRRRRRRRRRRRRRRRRLRBBRLBRBB (rwS42 g b 4 5 P chi by_ T) .normal (rwS42 g ((rwG36 F T 4 5 (P, b)).2) 4 6 ((rwG36 F T 4 5 (P, b)).1) chi by_ T) := gCut_runs hG (rwq36_4_5 (F := F) (g := g) (b := b) (P := P) (chi := chi) (by_ := by_) (T := T)) rfl (rwS42_k ..) rfl
theorem rwq36_e4r (g : Gs) (b : Bool) (P : Mx) (chi : Int) (by_ : R6) (T : Mx) : RunsTo Tryz.prog 322 rwcRRRRRRRRRRRRRRRRRRRRRRRRRRLRBBRLBRBB (rwS42 g b 4 6 P chi by_ T) (.exit 26) (rwS41 g b 4 P chi by_ T) := gCut_runs hG (rwq36_e4 (F := F) (g := g) (b := b) (P := P) (chi := chi) (by_ := by_) (T := T)) rfl (rwS41_k ..) rfl
theorem rwq36_i4 (g : Gs) (chi : Int) (by_ : R6) (T : Mx) (z0 : Mx × Bool) : RunsTo Tryz.prog 322 (.block 26 (.loop rwcRRRRRRRRRRRRRRRRRRRRRRRRRRLRBBRLBRBB)) (rwS42 g z0.2 4 0 z0.1 chi by_ T) .normal (rwS41 g ((iterF (rwG36 F T 4) 0 6 z0).2) 4 ((iterF (rwG36 F T 4) 0 6 z0).1) chi by_ T) :=
  RunsTo.rounds (P := Tryz.prog) (N := 322) (c := rwcRRRRRRRRRRRRRRRRRRRRRRRRRRLRBBRLBRBB) (id := 26) 6 (fun i z => (rwS42 g z.2 4 (i : Nat) z.1 chi by_ T)) (fun z => (rwS41 g z.2 4 z.1 chi by_ T)) (rwG36 F T 4)
    (fun i z => below6 (p := fun i => RunsTo Tryz.prog 322 rwcRRRRRRRRRRRRRRRRRRRRRRRRRRLRBBRLBRBB (rwS42 g z.2 4 (i : Nat) z.1 chi by_ T) .normal (rwS42 g ((rwG36 F T 4 i z).2) 4 (i + 1 : Nat) ((rwG36 F T 4 i z).1) chi by_ T))
      (rwq36_4_0r hG (g := g) (b := z.2) (P := z.1) (chi := chi) (by_ := by_) (T := T))
      (rwq36_4_1r hG (g := g) (b := z.2) (P := z.1) (chi := chi) (by_ := by_) (T := T))
      (rwq36_4_2r hG (g := g) (b := z.2) (P := z.1) (chi := chi) (by_ := by_) (T := T))
      (rwq36_4_3r hG (g := g) (b := z.2) (P := z.1) (chi := chi) (by_ := by_) (T := T))
      (rwq36_4_4r hG (g := g) (b := z.2) (P := z.1) (chi := chi) (by_ := by_) (T := T))
      (rwq36_4_5r hG (g := g) (b := z.2) (P := z.1) (chi := chi) (by_ := by_) (T := T))
      i)
    (fun z => rwq36_e4r hG (g := g) (b := z.2) (P := z.1) (chi := chi) (by_ := by_) (T := T)) z0
theorem rwq36_o4 (g : Gs) (chi : Int) (by_ : R6) (T : Mx) (z : Mx × Bool) : RunsTo Tryz.prog 322 rwcRRRRRRRRRRRRRRRRRRRRRRRRRRLRBB (rwS41 g z.2 4 z.1 chi by_ T) .normal (rwS41 g ((rwF36 F T 4 z).2) 5 ((rwF36 F T 4 z).1) chi by_ T) := by
  rw [rwq36_is]
  exact (rwq36_h4r hG (g := g) (b := z.2) (P := z.1) (chi := chi) (by_ := by_) (T := T)).seq (RunsTo.seq (RunsTo.block ((rwq36_j4r hG (g := g) (b := z.2) (P := z.1) (chi := chi) (by_ := by_) (T := T)).seq (rwq36_i4 hG (g := g) (chi := chi) (by_ := by_) (T := T) (z0 := z))) (.inl rfl)) (rwq36_p4r hG (g := g) (b := (rwF36 F T 4 z).2) (P := (rwF36 F T 4 z).1) (chi := chi) (by_ := by_) (T := T)))
theorem rwq36_h5r (g : Gs) (b : Bool) (P : Mx) (chi : Int) (by_ : R6) (T : Mx) : RunsTo Tryz.prog 322 rwcRRRRRRRRRRRRRRRRRRRRRRRRRRLRBBL (rwS41 g b 5 P chi by_ T) .normal (rwS41 g b 5 P chi by_ T) := gCut_runs hG (rwq36_h5 (F := F) (g := g) (b := b) (P := P) (chi := chi) (by_ := by_) (T := T)) rfl (rwS41_k ..) rfl
theorem rwq36_j5r (g : Gs) (b : Bool) (P : Mx) (chi : Int) (by_ : R6) (T : Mx) : RunsTo Tryz.prog 322 rwcRRRRRRRRRRRRRRRRRRRRRRRRRRLRBBRLBL (rwS41 g b 5 P chi by_ T) .normal (rwS42 g b 5 0 P chi by_ T) := gCut_runs hG (rwq36_j5 (F := F) (g := g) (b := b) (P := P) (chi := chi) (by_ := by_) (T := T)) rfl (rwS42_k ..) rfl
theorem rwq36_p5r (g : Gs) (b : Bool) (P : Mx) (chi : Int) (by_ : R6) (T : Mx) : RunsTo Tryz.prog 322 rwcRRRRRRRRRRRRRRRRRRRRRRRRRRLRBBRR (rwS41 g b 5 P chi by_ T) .normal (rwS41 g b 6 P chi by_ T) := gCut_runs hG (rwq36_p5 (F := F) (g := g) (b := b) (P := P) (chi := chi) (by_ := by_) (T := T)) rfl (rwS41_k ..) rfl
theorem rwq36_5_0r (g : Gs) (b : Bool) (P : Mx) (chi : Int) (by_ : R6) (T : Mx) : RunsTo Tryz.prog 322 rwcRRRRRRRRRRRRRRRRRRRRRRRRRRLRBBRLBRBB (rwS42 g b 5 0 P chi by_ T) .normal (rwS42 g ((rwG36 F T 5 0 (P, b)).2) 5 1 ((rwG36 F T 5 0 (P, b)).1) chi by_ T) := gCut_runs hG (rwq36_5_0 (F := F) (g := g) (b := b) (P := P) (chi := chi) (by_ := by_) (T := T)) rfl (rwS42_k ..) rfl
theorem rwq36_5_1r (g : Gs) (b : Bool) (P : Mx) (chi : Int) (by_ : R6) (T : Mx) : RunsTo Tryz.prog 322 rwcRRRRRRRRRRRRRRRRRRRRRRRRRRLRBBRLBRBB (rwS42 g b 5 1 P chi by_ T) .normal (rwS42 g ((rwG36 F T 5 1 (P, b)).2) 5 2 ((rwG36 F T 5 1 (P, b)).1) chi by_ T) := gCut_runs hG (rwq36_5_1 (F := F) (g := g) (b := b) (P := P) (chi := chi) (by_ := by_) (T := T)) rfl (rwS42_k ..) rfl
theorem rwq36_5_2r (g : Gs) (b : Bool) (P : Mx) (chi : Int) (by_ : R6) (T : Mx) : RunsTo Tryz.prog 322 rwcRRRRRRRRRRRRRRRRRRRRRRRRRRLRBBRLBRBB (rwS42 g b 5 2 P chi by_ T) .normal (rwS42 g ((rwG36 F T 5 2 (P, b)).2) 5 3 ((rwG36 F T 5 2 (P, b)).1) chi by_ T) := gCut_runs hG (rwq36_5_2 (F := F) (g := g) (b := b) (P := P) (chi := chi) (by_ := by_) (T := T)) rfl (rwS42_k ..) rfl
theorem rwq36_5_3r (g : Gs) (b : Bool) (P : Mx) (chi : Int) (by_ : R6) (T : Mx) : RunsTo Tryz.prog 322 rwcRRRRRRRRRRRRRRRRRRRRRRRRRRLRBBRLBRBB (rwS42 g b 5 3 P chi by_ T) .normal (rwS42 g ((rwG36 F T 5 3 (P, b)).2) 5 4 ((rwG36 F T 5 3 (P, b)).1) chi by_ T) := gCut_runs hG (rwq36_5_3 (F := F) (g := g) (b := b) (P := P) (chi := chi) (by_ := by_) (T := T)) rfl (rwS42_k ..) rfl
theorem rwq36_5_4r (g : Gs) (b : Bool) (P : Mx) (chi : Int) (by_ : R6) (T : Mx) : RunsTo Tryz.prog 322 rwcRRRRRRRRRRRRRRRRRRRRRRRRRRLRBBRLBRBB (rwS42 g b 5 4 P chi by_ T) .normal (rwS42 g ((rwG36 F T 5 4 (P, b)).2) 5 5 ((rwG36 F T 5 4 (P, b)).1) chi by_ T) := gCut_runs hG (rwq36_5_4 (F := F) (g := g) (b := b) (P := P) (chi := chi) (by_ := by_) (T := T)) rfl (rwS42_k ..) rfl
theorem rwq36_5_5r (g : Gs) (b : Bool) (P : Mx) (chi : Int) (by_ : R6) (T : Mx) : RunsTo Tryz.prog 322 rwcRRRRRRRRRRRRRRRRRRRRRRRRRRLRBBRLBRBB (rwS42 g b 5 5 P chi by_ T) .normal (rwS42 g ((rwG36 F T 5 5 (P, b)).2) 5 6 ((rwG36 F T 5 5 (P, b)).1) chi by_ T) := gCut_runs hG (rwq36_5_5 (F := F) (g := g) (b := b) (P := P) (chi := chi) (by_ := by_) (T := T)) rfl (rwS42_k ..) rfl
theorem rwq36_e5r (g : Gs) (b : Bool) (P : Mx) (chi : Int) (by_ : R6) (T : Mx) : RunsTo Tryz.prog 322 rwcRRRRRRRRRRRRRRRRRRRRRRRRRRLRBBRLBRBB (rwS42 g b 5 6 P chi by_ T) (.exit 26) (rwS41 g b 5 P chi by_ T) := gCut_runs hG (rwq36_e5 (F := F) (g := g) (b := b) (P := P) (chi := chi) (by_ := by_) (T := T)) rfl (rwS41_k ..) rfl
theorem rwq36_i5 (g : Gs) (chi : Int) (by_ : R6) (T : Mx) (z0 : Mx × Bool) : RunsTo Tryz.prog 322 (.block 26 (.loop rwcRRRRRRRRRRRRRRRRRRRRRRRRRRLRBBRLBRBB)) (rwS42 g z0.2 5 0 z0.1 chi by_ T) .normal (rwS41 g ((iterF (rwG36 F T 5) 0 6 z0).2) 5 ((iterF (rwG36 F T 5) 0 6 z0).1) chi by_ T) :=
  RunsTo.rounds (P := Tryz.prog) (N := 322) (c := rwcRRRRRRRRRRRRRRRRRRRRRRRRRRLRBBRLBRBB) (id := 26) 6 (fun i z => (rwS42 g z.2 5 (i : Nat) z.1 chi by_ T)) (fun z => (rwS41 g z.2 5 z.1 chi by_ T)) (rwG36 F T 5)
    (fun i z => below6 (p := fun i => RunsTo Tryz.prog 322 rwcRRRRRRRRRRRRRRRRRRRRRRRRRRLRBBRLBRBB (rwS42 g z.2 5 (i : Nat) z.1 chi by_ T) .normal (rwS42 g ((rwG36 F T 5 i z).2) 5 (i + 1 : Nat) ((rwG36 F T 5 i z).1) chi by_ T))
      (rwq36_5_0r hG (g := g) (b := z.2) (P := z.1) (chi := chi) (by_ := by_) (T := T))
      (rwq36_5_1r hG (g := g) (b := z.2) (P := z.1) (chi := chi) (by_ := by_) (T := T))
      (rwq36_5_2r hG (g := g) (b := z.2) (P := z.1) (chi := chi) (by_ := by_) (T := T))
      (rwq36_5_3r hG (g := g) (b := z.2) (P := z.1) (chi := chi) (by_ := by_) (T := T))
      (rwq36_5_4r hG (g := g) (b := z.2) (P := z.1) (chi := chi) (by_ := by_) (T := T))
      (rwq36_5_5r hG (g := g) (b := z.2) (P := z.1) (chi := chi) (by_ := by_) (T := T))
      i)
    (fun z => rwq36_e5r hG (g := g) (b := z.2) (P := z.1) (chi := chi) (by_ := by_) (T := T)) z0
theorem rwq36_o5 (g : Gs) (chi : Int) (by_ : R6) (T : Mx) (z : Mx × Bool) : RunsTo Tryz.prog 322 rwcRRRRRRRRRRRRRRRRRRRRRRRRRRLRBB (rwS41 g z.2 5 z.1 chi by_ T) .normal (rwS41 g ((rwF36 F T 5 z).2) 6 ((rwF36 F T 5 z).1) chi by_ T) := by
  rw [rwq36_is]
  exact (rwq36_h5r hG (g := g) (b := z.2) (P := z.1) (chi := chi) (by_ := by_) (T := T)).seq (RunsTo.seq (RunsTo.block ((rwq36_j5r hG (g := g) (b := z.2) (P := z.1) (chi := chi) (by_ := by_) (T := T)).seq (rwq36_i5 hG (g := g) (chi := chi) (by_ := by_) (T := T) (z0 := z))) (.inl rfl)) (rwq36_p5r hG (g := g) (b := (rwF36 F T 5 z).2) (P := (rwF36 F T 5 z).1) (chi := chi) (by_ := by_) (T := T)))
theorem rwq36_xr (g : Gs) (b : Bool) (P : Mx) (chi : Int) (by_ : R6) (T : Mx) : RunsTo Tryz.prog 322 rwcRRRRRRRRRRRRRRRRRRRRRRRRRRLRBB (rwS41 g b 6 P chi by_ T) (.exit 24) (rwS43 g b P chi by_) := gCut_runs hG (rwq36_x (F := F) (g := g) (b := b) (P := P) (chi := chi) (by_ := by_) (T := T)) rfl (rwS43_k ..) rfl
theorem rwq36_l (g : Gs) (chi : Int) (by_ : R6) (T : Mx) (z0 : Mx × Bool) : RunsTo Tryz.prog 322 (.block 24 (.loop rwcRRRRRRRRRRRRRRRRRRRRRRRRRRLRBB)) (rwS41 g z0.2 0 z0.1 chi by_ T) .normal (rwS43 g ((iterF (rwF36 F T) 0 6 z0).2) ((iterF (rwF36 F T) 0 6 z0).1) chi by_) :=
  RunsTo.rounds (P := Tryz.prog) (N := 322) (c := rwcRRRRRRRRRRRRRRRRRRRRRRRRRRLRBB) (id := 24) 6 (fun i z => (rwS41 g z.2 (i : Nat) z.1 chi by_ T)) (fun z => (rwS43 g z.2 z.1 chi by_)) (rwF36 F T)
    (fun i z => below6 (p := fun i => RunsTo Tryz.prog 322 rwcRRRRRRRRRRRRRRRRRRRRRRRRRRLRBB (rwS41 g z.2 (i : Nat) z.1 chi by_ T) .normal (rwS41 g ((rwF36 F T i z).2) (i + 1 : Nat) ((rwF36 F T i z).1) chi by_ T))
      (rwq36_o0 hG (g := g) (chi := chi) (by_ := by_) (T := T) (z := z))
      (rwq36_o1 hG (g := g) (chi := chi) (by_ := by_) (T := T) (z := z))
      (rwq36_o2 hG (g := g) (chi := chi) (by_ := by_) (T := T) (z := z))
      (rwq36_o3 hG (g := g) (chi := chi) (by_ := by_) (T := T) (z := z))
      (rwq36_o4 hG (g := g) (chi := chi) (by_ := by_) (T := T) (z := z))
      (rwq36_o5 hG (g := g) (chi := chi) (by_ := by_) (T := T) (z := z))
      i)
    (fun z => rwq36_xr hG (g := g) (b := z.2) (P := z.1) (chi := chi) (by_ := by_) (T := T)) z0
theorem rwq37_r (g : Gs) (b : Bool) (P : Mx) (chi : Int) (by_ : R6) : RunsTo Tryz.prog 322 rwcRRRRRRRRRRRRRRRRRRRRRRRRRRRL (rwS43 g b P chi by_) .normal (rwS44 g ((rmQ F by_ g b).2) P chi by_ ((rmQ F by_ g b).1)) := gRun_runs hG (rwq37 (F := F) (g := g) (b := b) (P := P) (chi := chi) (by_ := by_))
theorem rwq38_r (g : Gs) (b : Bool) (P : Mx) (chi : Int) (by_ : R6) (q : V4) : RunsTo Tryz.prog 322 rwcRRRRRRRRRRRRRRRRRRRRRRRRRRRRL (rwS44 g b P chi by_ q) .normal (rwS45 ((F.va b (g.bias, (halvesV by_).b, ())).2) P chi q ((F.va b (g.bias, (halvesV by_).b, ())).1)) := gRun_runs hG (rwq38 (F := F) (g := g) (b := b) (P := P) (chi := chi) (by_ := by_) (q := q))
theorem rwq39_r (b : Bool) (P : Mx) (chi : Int) (q : V4) (bi : V3) : RunsTo Tryz.prog 322 rwcRRRRRRRRRRRRRRRRRRRRRRRRRRRRR (rwS45 b P chi q bi) .ret (rwE b (bif b then Gs.zero else ⟨q, bi, M6.of P⟩) (bif b then 0 else chi) (bif b then false else true) (4096 + 17 * 2 ^ 180)) := by
  refine gRun_runs hG ((rwq39 (F := F) (b := b) (P := P) (chi := chi) (q := q) (bi := bi)).trans ?_)
  cases b <;> rfl
end
def rmeetO_t (F : ROps) (g : Gs) (b : Bool) (Q : Mx) (Y : (Nat → Int)) (l : M6) (chi : Int) : GCB × Bool :=
  let z29 := iterF (rwF29 F Q l) 0 6 (mx0, b)
  let z30 := F.ap z29.2 (M6.of z29.1, R6.of Y, 6, ())
  let z33 := iterF (rwF33 F g Q z29.1) 0 6 (mx0, z30.2)
  let z36 := iterF (rwF36 F z33.1) 0 6 (mx0, z33.2)
  let z37 := rmQ F z30.1 g z36.2
  let z38 := F.va z37.2 (g.bias, (halvesV z30.1).b, ())
  (⟨bif z38.2 then Gs.zero else ⟨z37.1, z38.1, M6.of z36.1⟩, bif z38.2 then 0 else chi, bif z38.2 then false else true⟩, z38.2)
section
variable {F : ROps} (hG : GamOk Tryz.prog (eR F).gam)
include hG
theorem rmeetO_t_runs (g : Gs) (b : Bool) (Q : Mx) (Y : (Nat → Int)) (l : M6) (chi : Int) : ∃ lo, RunsTo Tryz.prog 322 (.seq rwcRRRRRRRRRRRRRRRRRRRRL (.seq (.seq rwcRRRRRRRRRRRRRRRRRRRRRLL (.block 16 (.loop rwcRRRRRRRRRRRRRRRRRRRRRLRBB))) (.seq rwcRRRRRRRRRRRRRRRRRRRRRRL (.seq rwcRRRRRRRRRRRRRRRRRRRRRRRL (.seq (.seq rwcRRRRRRRRRRRRRRRRRRRRRRRRLL (.block 18 (.loop rwcRRRRRRRRRRRRRRRRRRRRRRRRLRBB))) (.seq rwcRRRRRRRRRRRRRRRRRRRRRRRRRL (.seq (.seq rwcRRRRRRRRRRRRRRRRRRRRRRRRRRLL (.block 24 (.loop rwcRRRRRRRRRRRRRRRRRRRRRRRRRRLRBB))) (.seq rwcRRRRRRRRRRRRRRRRRRRRRRRRRRRL (.seq rwcRRRRRRRRRRRRRRRRRRRRRRRRRRRRL rwcRRRRRRRRRRRRRRRRRRRRRRRRRRRRR))))))))) (rwS30 g b Q Y l chi) .ret (rwE ((rmeetO_t F g b Q Y l chi).2) ((rmeetO_t F g b Q Y l chi).1.g) ((rmeetO_t F g b Q Y l chi).1.chi) ((rmeetO_t F g b Q Y l chi).1.ok) lo) := by
  unfold rmeetO_t
  dsimp only
  have h27 := rwq27_r hG (g := g) (b := b) (Q := Q) (Y := Y) (l := l) (chi := chi)
  have h28 := rwq28_r hG (g := g) (b := b) (Q := Q) (Y := Y) (l := l) (chi := chi) (K := mx0)
  have h29 := rwq29_l hG (g := g) (Q := Q) (Y := Y) (l := l) (chi := chi) (z0 := (mx0, b))
  dsimp only at h29
  generalize iterF (rwF29 F Q l) 0 6 (mx0, b) = z29 at h29 ⊢
  have h30 := rwq30_r hG (g := g) (b := z29.2) (Q := Q) (Y := Y) (chi := chi) (K := z29.1)
  generalize F.ap z29.2 (M6.of z29.1, R6.of Y, 6, ()) = z30 at h30 ⊢
  have h31 := rwq31_r hG (g := g) (b := z30.2) (Q := Q) (chi := chi) (K := z29.1) (by_ := z30.1)
  have h32 := rwq32_r hG (g := g) (b := z30.2) (Q := Q) (chi := chi) (K := z29.1) (by_ := z30.1) (T := mx0)
  have h33 := rwq33_l hG (g := g) (Q := Q) (chi := chi) (K := z29.1) (by_ := z30.1) (z0 := (mx0, z30.2))
  dsimp only at h33
  generalize iterF (rwF33 F g Q z29.1) 0 6 (mx0, z30.2) = z33 at h33 ⊢
  have h34 := rwq34_r hG (g := g) (b := z33.2) (chi := chi) (by_ := z30.1) (T := z33.1)
  have h35 := rwq35_r hG (g := g) (b := z33.2) (P := mx0) (chi := chi) (by_ := z30.1) (T := z33.1)
  have h36 := rwq36_l hG (g := g) (chi := chi) (by_ := z30.1) (T := z33.1) (z0 := (mx0, z33.2))
  dsimp only at h36
  generalize iterF (rwF36 F z33.1) 0 6 (mx0, z33.2) = z36 at h36 ⊢
  have h37 := rwq37_r hG (g := g) (b := z36.2) (P := z36.1) (chi := chi) (by_ := z30.1)
  generalize rmQ F z30.1 g z36.2 = z37 at h37 ⊢
  have h38 := rwq38_r hG (g := g) (b := z37.2) (P := z36.1) (chi := chi) (by_ := z30.1) (q := z37.1)
  generalize F.va z37.2 (g.bias, (halvesV z30.1).b, ()) = z38 at h38 ⊢
  have h39 := rwq39_r hG (b := z38.2) (P := z36.1) (chi := chi) (q := z37.1) (bi := z38.1)
  exact ⟨_, (h27.seq ((h28.seq h29).seq (h30.seq (h31.seq ((h32.seq h33).seq (h34.seq ((h35.seq h36).seq (h37.seq (h38.seq h39)))))))))⟩
end
/-- What a guess is behind what is seen, by the document. -/
def rmeetO (F : ROps) (b : Bool) (a : Gs × P2 × P2 × Unit) : GCB × Bool :=
  let z2 := iterF (rwF2 F) 0 2 (a.2.1, a.2.2.1, b)
  let z3 := F.pt z2.2.2 (a.1, ())
  let z6 := iterF (rwF6 F a.1 z2.1 z3.1) 0 13 (mx0, z3.2)
  let z9 := iterF (rwF9 F z6.1) 0 6 (fun _ => 0, z6.2)
  let z10 := F.ls z9.2 (x13of z6.1, R6.of z9.1, ())
  let z14 := iterF (rwF14 F z3.1 z10.1) 0 6 (mx0, mx0, z10.2)
  let z16 := iterF (rwF16 F) 0 3 (z14.1, z14.2.2)
  let z19 := iterF (rwF19 F z9.1) 0 6 ((joinV z2.2.1.a z2.2.1.b).at, z16.2)
  let z20 := F.rt z19.2 (M6.of z16.1, 6, ())
  let z21 := F.so z20.2 (z20.1, R6.of z19.1, 6, ())
  let z24 := iterF (rwF24 F z19.1 z21.1) 0 6 (0, z21.2)
  bif tst z24.2 then (⟨Gs.zero, 0, false⟩, z24.2) else
  bif tst (decide (z24.1 > 32985348833280)) then (⟨a.1, z24.1, false⟩, z24.2) else
  rmeetO_t F a.1 z24.2 z14.2.1 z19.1 z20.1 z24.1
theorem rwR (b : Bool) (r : Gs) (rc : Int) (rk : Bool) (lo : Nat) : resA Tryz.prog (rwE b r rc rk lo) Tryz.f22.results.toList = some [.val (Cod.enc r), .val (.int .i64 rc), .val (.bool rk)] := by kernel_rfl
theorem f22_is : Tryz.prog.funcs[22]? = some Tryz.f22 := by kernel_rfl
section
variable {F : ROps} (hG : GamOk Tryz.prog (eR F).gam)
include hG
theorem rmeetO_runs (b : Bool) (g : Gs) (sky : P2) (body : P2) : ∃ lo, RunsTo Tryz.prog 322 rwC (startS 322 [.ptr 0 0, .val (Cod.enc g), .val (Cod.enc sky), .val (Cod.enc body)] (row 59 b)) .ret (rwE ((rmeetO F b (g, sky, body, ())).2) ((rmeetO F b (g, sky, body, ())).1.g) ((rmeetO F b (g, sky, body, ())).1.chi) ((rmeetO F b (g, sky, body, ())).1.ok) lo) := by
  have hc : rwC = (.seq rwcL (.seq (.seq rwcRLL (.block 0 (.loop rwcRLRBB))) (.seq rwcRRL (.seq rwcRRRL (.seq (.seq rwcRRRRLL (.block 2 (.loop rwcRRRRLRBB))) (.seq rwcRRRRRL (.seq (.seq rwcRRRRRRLL (.block 4 (.loop rwcRRRRRRLRBB))) (.seq rwcRRRRRRRL (.seq rwcRRRRRRRRL (.seq rwcRRRRRRRRRL (.seq (.seq rwcRRRRRRRRRRLL (.block 6 (.loop rwcRRRRRRRRRRLRBB))) (.seq (.seq rwcRRRRRRRRRRRLL (.block 10 (.loop rwcRRRRRRRRRRRLRBB))) (.seq rwcRRRRRRRRRRRRL (.seq (.seq rwcRRRRRRRRRRRRRLL (.block 12 (.loop rwcRRRRRRRRRRRRRLRBB))) (.seq rwcRRRRRRRRRRRRRRL (.seq rwcRRRRRRRRRRRRRRRL (.seq rwcRRRRRRRRRRRRRRRRL (.seq (.seq rwcRRRRRRRRRRRRRRRRRLL (.block 14 (.loop rwcRRRRRRRRRRRRRRRRRLRBB))) (.seq rwcRRRRRRRRRRRRRRRRRRL (.seq rwcRRRRRRRRRRRRRRRRRRRL (.seq rwcRRRRRRRRRRRRRRRRRRRRL (.seq (.seq rwcRRRRRRRRRRRRRRRRRRRRRLL (.block 16 (.loop rwcRRRRRRRRRRRRRRRRRRRRRLRBB))) (.seq rwcRRRRRRRRRRRRRRRRRRRRRRL (.seq rwcRRRRRRRRRRRRRRRRRRRRRRRL (.seq (.seq rwcRRRRRRRRRRRRRRRRRRRRRRRRLL (.block 18 (.loop rwcRRRRRRRRRRRRRRRRRRRRRRRRLRBB))) (.seq rwcRRRRRRRRRRRRRRRRRRRRRRRRRL (.seq (.seq rwcRRRRRRRRRRRRRRRRRRRRRRRRRRLL (.block 24 (.loop rwcRRRRRRRRRRRRRRRRRRRRRRRRRRLRBB))) (.seq rwcRRRRRRRRRRRRRRRRRRRRRRRRRRRL (.seq rwcRRRRRRRRRRRRRRRRRRRRRRRRRRRRL rwcRRRRRRRRRRRRRRRRRRRRRRRRRRRRR))))))))))))))))))))))))))))) := by
    unfold rwC
    rw [rwC_is]
    rfl
  rw [hc]
  unfold rmeetO
  dsimp only
  have h0 := rwq0_r hG (g := g) (sky := sky) (body := body) (b := b)
  have h1 := rwq1_r hG (g := g) (sky := sky) (body := body) (b := b)
  have h2 := rwq2_l hG (g := g) (z0 := (sky, body, b))
  dsimp only at h2
  generalize iterF (rwF2 F) 0 2 (sky, body, b) = z2 at h2 ⊢
  have h3 := rwq3_r hG (g := g) (sky := z2.1) (body := z2.2.1) (b := z2.2.2)
  generalize F.pt z2.2.2 (g, ()) = z3 at h3 ⊢
  have h4 := rwq4_r hG (g := g) (sky := z2.1) (body := z2.2.1) (b := z3.2) (x := z3.1)
  have h5 := rwq5_r hG (g := g) (sky := z2.1) (body := z2.2.1) (b := z3.2) (x := z3.1) (Z := mx0)
  have h6 := rwq6_l hG (g := g) (sky := z2.1) (body := z2.2.1) (x := z3.1) (z0 := (mx0, z3.2))
  dsimp only at h6
  generalize iterF (rwF6 F g z2.1 z3.1) 0 13 (mx0, z3.2) = z6 at h6 ⊢
  have h7 := rwq7_r hG (g := g) (body := z2.2.1) (b := z6.2) (x := z3.1) (Z := z6.1)
  have h8 := rwq8_r hG (g := g) (body := z2.2.1) (b := z6.2) (x := z3.1) (Z := z6.1) (m := fun _ => 0)
  have h9 := rwq9_l hG (g := g) (body := z2.2.1) (x := z3.1) (Z := z6.1) (z0 := (fun _ => 0, z6.2))
  dsimp only at h9
  generalize iterF (rwF9 F z6.1) 0 6 (fun _ => 0, z6.2) = z9 at h9 ⊢
  have h10 := rwq10_r hG (g := g) (body := z2.2.1) (b := z9.2) (x := z3.1) (Z := z6.1) (m := z9.1)
  generalize F.ls z9.2 (x13of z6.1, R6.of z9.1, ()) = z10 at h10 ⊢
  have h11 := rwq11_r hG (g := g) (body := z2.2.1) (b := z10.2) (x := z3.1) (m := z9.1) (d := z10.1)
  have h12 := rwq12_r hG (g := g) (body := z2.2.1) (b := z10.2) (x := z3.1) (m := z9.1) (d := z10.1) (P := mx0)
  have h13 := rwq13_r hG (g := g) (body := z2.2.1) (b := z10.2) (x := z3.1) (m := z9.1) (d := z10.1) (P := mx0) (Q := mx0)
  have h14 := rwq14_l hG (g := g) (body := z2.2.1) (x := z3.1) (m := z9.1) (d := z10.1) (z0 := (mx0, mx0, z10.2))
  dsimp only at h14
  generalize iterF (rwF14 F z3.1 z10.1) 0 6 (mx0, mx0, z10.2) = z14 at h14 ⊢
  have h15 := rwq15_r hG (g := g) (body := z2.2.1) (b := z14.2.2) (m := z9.1) (P := z14.1) (Q := z14.2.1)
  have h16 := rwq16_l hG (g := g) (body := z2.2.1) (m := z9.1) (Q := z14.2.1) (z0 := (z14.1, z14.2.2))
  dsimp only at h16
  generalize iterF (rwF16 F) 0 3 (z14.1, z14.2.2) = z16 at h16 ⊢
  have h17 := rwq17_r hG (g := g) (body := z2.2.1) (b := z16.2) (m := z9.1) (P := z16.1) (Q := z14.2.1)
  have h18 := rwq18_r hG (g := g) (b := z16.2) (m := z9.1) (P := z16.1) (Q := z14.2.1) (Y := (joinV z2.2.1.a z2.2.1.b).at)
  have h19 := rwq19_l hG (g := g) (m := z9.1) (P := z16.1) (Q := z14.2.1) (z0 := ((joinV z2.2.1.a z2.2.1.b).at, z16.2))
  dsimp only at h19
  generalize iterF (rwF19 F z9.1) 0 6 ((joinV z2.2.1.a z2.2.1.b).at, z16.2) = z19 at h19 ⊢
  have h20 := rwq20_r hG (g := g) (b := z19.2) (P := z16.1) (Q := z14.2.1) (Y := z19.1)
  generalize F.rt z19.2 (M6.of z16.1, 6, ()) = z20 at h20 ⊢
  have h21 := rwq21_r hG (g := g) (b := z20.2) (Q := z14.2.1) (Y := z19.1) (l := z20.1)
  generalize F.so z20.2 (z20.1, R6.of z19.1, 6, ()) = z21 at h21 ⊢
  have h22 := rwq22_r hG (g := g) (b := z21.2) (Q := z14.2.1) (Y := z19.1) (l := z20.1) (u := z21.1)
  have h23 := rwq23_r hG (g := g) (b := z21.2) (Q := z14.2.1) (Y := z19.1) (l := z20.1) (u := z21.1) (chi := 0)
  have h24 := rwq24_l hG (g := g) (Q := z14.2.1) (Y := z19.1) (l := z20.1) (u := z21.1) (z0 := (0, z21.2))
  dsimp only at h24
  generalize iterF (rwF24 F z19.1 z21.1) 0 6 (0, z21.2) = z24 at h24 ⊢
  cases hb25 : tst z24.2
  rotate_left
  · have h25 := rwq25t_r hG (g := g) (b := z24.2) (Q := z14.2.1) (Y := z19.1) (l := z20.1) (chi := z24.1) (hc := hb25)
    exact ⟨_, (h0.seq ((h1.seq h2).seq (h3.seq (h4.seq ((h5.seq h6).seq (h7.seq ((h8.seq h9).seq (h10.seq (h11.seq (h12.seq ((h13.seq h14).seq ((h15.seq h16).seq (h17.seq ((h18.seq h19).seq (h20.seq (h21.seq (h22.seq ((h23.seq h24).seq h25.seqR))))))))))))))))))⟩
  dsimp only [cond_false]
  have h25 := rwq25f_r hG (g := g) (b := z24.2) (Q := z14.2.1) (Y := z19.1) (l := z20.1) (chi := z24.1) (hc := hb25)
  cases hb26 : tst (decide (z24.1 > 32985348833280))
  rotate_left
  · have h26 := rwq26t_r hG (g := g) (b := z24.2) (Q := z14.2.1) (Y := z19.1) (l := z20.1) (chi := z24.1) (hc := hb26)
    exact ⟨_, (h0.seq ((h1.seq h2).seq (h3.seq (h4.seq ((h5.seq h6).seq (h7.seq ((h8.seq h9).seq (h10.seq (h11.seq (h12.seq ((h13.seq h14).seq ((h15.seq h16).seq (h17.seq ((h18.seq h19).seq (h20.seq (h21.seq (h22.seq ((h23.seq h24).seq (h25.seq h26.seqR)))))))))))))))))))⟩
  dsimp only [cond_false]
  have h26 := rwq26f_r hG (g := g) (b := z24.2) (Q := z14.2.1) (Y := z19.1) (l := z20.1) (chi := z24.1) (hc := hb26)
  obtain ⟨lo, hT⟩ := rmeetO_t_runs hG (g := g) (b := z24.2) (Q := z14.2.1) (Y := z19.1) (l := z20.1) (chi := z24.1)
  exact ⟨lo, (h0.seq ((h1.seq h2).seq (h3.seq (h4.seq ((h5.seq h6).seq (h7.seq ((h8.seq h9).seq (h10.seq (h11.seq (h12.seq ((h13.seq h14).seq ((h15.seq h16).seq (h17.seq ((h18.seq h19).seq (h20.seq (h21.seq (h22.seq ((h23.seq h24).seq (h25.seq (h26.seq hT))))))))))))))))))))⟩
theorem rmeetO_ok : SumOk Tryz.prog 22 (S 59 (rmeetO F)) := by
  intro args cs r cs' h
  obtain ⟨b, a, rfl, rfl, rfl, rfl⟩ := S_sel h
  obtain ⟨g, sky, body, u⟩ := a
  obtain ⟨lo, hr⟩ := rmeetO_runs hG b g sky body
  refine sum_runs f22_is (c := rwC) (by unfold rwC; rw [rwC_is]; rfl) rwN (by show 4 ≤ 322; omega) (by simp [row]) rfl rfl rfl (.inr rfl) hr (rwR ..) rfl rfl (fun b' c hb => ?_) rfl rfl
  match b', hb with
  | 0, hb => cases hb; rfl
  | n + 1, hb => simp [row] at hb
end
end Go.Ab
