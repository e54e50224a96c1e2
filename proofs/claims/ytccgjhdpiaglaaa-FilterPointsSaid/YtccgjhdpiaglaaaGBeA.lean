/- A part of the proofs: lemmas, no statement of their own; no condition. -/
import Derived.Test.YtccgjhdpiaglaaaGAbS
import Derived.Test.YtccgjhdpiaglaaaFkE
/- So many rounds, one by one. -/
namespace Go.Ab
theorem below2 {p : Nat → Prop} (h0 : p 0) (h1 : p 1) : ∀ i, i < 2 → p i
  | 0, _ => h0
  | 1, _ => h1
  | n + 2, h => absurd h (by omega)
theorem below3 {p : Nat → Prop} (h0 : p 0) (h1 : p 1) (h2 : p 2) : ∀ i, i < 3 → p i
  | 0, _ => h0
  | 1, _ => h1
  | 2, _ => h2
  | n + 3, h => absurd h (by omega)
theorem below4 {p : Nat → Prop} (h0 : p 0) (h1 : p 1) (h2 : p 2) (h3 : p 3) : ∀ i, i < 4 → p i
  | 0, _ => h0
  | 1, _ => h1
  | 2, _ => h2
  | 3, _ => h3
  | n + 4, h => absurd h (by omega)
theorem below6 {p : Nat → Prop} (h0 : p 0) (h1 : p 1) (h2 : p 2) (h3 : p 3) (h4 : p 4) (h5 : p 5) : ∀ i, i < 6 → p i
  | 0, _ => h0
  | 1, _ => h1
  | 2, _ => h2
  | 3, _ => h3
  | 4, _ => h4
  | 5, _ => h5
  | n + 6, h => absurd h (by omega)
theorem below7 {p : Nat → Prop} (h0 : p 0) (h1 : p 1) (h2 : p 2) (h3 : p 3) (h4 : p 4) (h5 : p 5) (h6 : p 6) : ∀ i, i < 7 → p i
  | 0, _ => h0
  | 1, _ => h1
  | 2, _ => h2
  | 3, _ => h3
  | 4, _ => h4
  | 5, _ => h5
  | 6, _ => h6
  | n + 7, h => absurd h (by omega)
theorem below13 {p : Nat → Prop} (h0 : p 0) (h1 : p 1) (h2 : p 2) (h3 : p 3) (h4 : p 4) (h5 : p 5) (h6 : p 6) (h7 : p 7) (h8 : p 8) (h9 : p 9) (h10 : p 10) (h11 : p 11) (h12 : p 12) : ∀ i, i < 13 → p i
  | 0, _ => h0
  | 1, _ => h1
  | 2, _ => h2
  | 3, _ => h3
  | 4, _ => h4
  | 5, _ => h5
  | 6, _ => h6
  | 7, _ => h7
  | 8, _ => h8
  | 9, _ => h9
  | 10, _ => h10
  | 11, _ => h11
  | 12, _ => h12
  | n + 13, h => absurd h (by omega)
end Go.Ab
/- Rows less a row. -/
namespace Go.Ab
open Go Go.Proofs
section
variable {o : Ops} (hG : GamOk Try.prog (eO o).gam)
include hG
theorem rlq0_r (x : X13) (m : R6) (b : Bool) : RunsTo Try.prog 32 rlcL (startS 32 [.ptr 0 0, .val (Cod.enc x), .val (Cod.enc m)] (row 27 b)) .normal (rlS1 m b x.at) := gRun_runs hG (rlq0 (o := o) (x := x) (m := m) (b := b))
theorem rlq1_r (m : R6) (b : Bool) (X : Mx) : RunsTo Try.prog 32 rlcRLL (rlS1 m b X) .normal (rlS2 m b X 0) := gRun_runs hG (rlq1 (o := o) (m := m) (b := b) (X := X))
theorem rlq2_0r (m : R6) (b : Bool) (X : Mx) : RunsTo Try.prog 32 rlcRLRBB (rlS2 m b X 0) .normal (rlS2 m ((rlF2 o m 0 (X, b)).2) ((rlF2 o m 0 (X, b)).1) 1) := gCut_runs hG (rlq2_0 (o := o) (m := m) (b := b) (X := X)) rfl (rlS2_k ..) rfl
theorem rlq2_1r (m : R6) (b : Bool) (X : Mx) : RunsTo Try.prog 32 rlcRLRBB (rlS2 m b X 1) .normal (rlS2 m ((rlF2 o m 1 (X, b)).2) ((rlF2 o m 1 (X, b)).1) 2) := gCut_runs hG (rlq2_1 (o := o) (m := m) (b := b) (X := X)) rfl (rlS2_k ..) rfl
theorem rlq2_2r (m : R6) (b : Bool) (X : Mx) : RunsTo Try.prog 32 rlcRLRBB (rlS2 m b X 2) .normal (rlS2 m ((rlF2 o m 2 (X, b)).2) ((rlF2 o m 2 (X, b)).1) 3) := gCut_runs hG (rlq2_2 (o := o) (m := m) (b := b) (X := X)) rfl (rlS2_k ..) rfl
theorem rlq2_3r (m : R6) (b : Bool) (X : Mx) : RunsTo Try.prog 32 rlcRLRBB (rlS2 m b X 3) .normal (rlS2 m ((rlF2 o m 3 (X, b)).2) ((rlF2 o m 3 (X, b)).1) 4) := gCut_runs hG (rlq2_3 (o := o) (m := m) (b := b) (X := X)) rfl (rlS2_k ..) rfl
theorem rlq2_4r (m : R6) (b : Bool) (X : Mx) : RunsTo Try.prog 32 rlcRLRBB (rlS2 m b X 4) .normal (rlS2 m ((rlF2 o m 4 (X, b)).2) ((rlF2 o m 4 (X, b)).1) 5) := gCut_runs hG (rlq2_4 (o := o) (m := m) (b := b) (X := X)) rfl (rlS2_k ..) rfl
theorem rlq2_5r (m : R6) (b : Bool) (X : Mx) : RunsTo Try.prog 32 rlcRLRBB (rlS2 m b X 5) .normal (rlS2 m ((rlF2 o m 5 (X, b)).2) ((rlF2 o m 5 (X, b)).1) 6) := gCut_runs hG (rlq2_5 (o := o) (m := m) (b := b) (X := X)) rfl (rlS2_k ..) rfl
theorem rlq2_6r (m : R6) (b : Bool) (X : Mx) : RunsTo Try.prog 32 rlcRLRBB (rlS2 m b X 6) .normal (rlS2 m ((rlF2 o m 6 (X, b)).2) ((rlF2 o m 6 (X, b)).1) 7) := gCut_runs hG (rlq2_6 (o := o) (m := m) (b := b) (X := X)) rfl (rlS2_k ..) rfl
theorem rlq2_7r (m : R6) (b : Bool) (X : Mx) : RunsTo Try.prog 32 rlcRLRBB (rlS2 m b X 7) .normal (rlS2 m ((rlF2 o m 7 (X, b)).2) ((rlF2 o m 7 (X, b)).1) 8) := gCut_runs hG (rlq2_7 (o := o) (m := m) (b := b) (X := X)) rfl (rlS2_k ..) rfl
theorem rlq2_8r (m : R6) (b : Bool) (X : Mx) : RunsTo Try.prog 32 rlcRLRBB (rlS2 m b X 8) .normal (rlS2 m ((rlF2 o m 8 (X, b)).2) ((rlF2 o m 8 (X, b)).1) 9) := gCut_runs hG (rlq2_8 (o := o) (m := m) (b := b) (X := X)) rfl (rlS2_k ..) rfl
theorem rlq2_9r (m : R6) (b : Bool) (X : Mx) : RunsTo Try.prog 32 rlcRLRBB (rlS2 m b X 9) .normal (rlS2 m ((rlF2 o m 9 (X, b)).2) ((rlF2 o m 9 (X, b)).1) 10) := gCut_runs hG (rlq2_9 (o := o) (m := m) (b := b) (X := X)) rfl (rlS2_k ..) rfl
theorem rlq2_10r (m : R6) (b : Bool) (X : Mx) : RunsTo Try.prog 32 rlcRLRBB (rlS2 m b X 10) .normal (rlS2 m ((rlF2 o m 10 (X, b)).2) ((rlF2 o m 10 (X, b)).1) 11) := gCut_runs hG (rlq2_10 (o := o) (m := m) (b := b) (X := X)) rfl (rlS2_k ..) rfl
theorem rlq2_11r (m : R6) (b : Bool) (X : Mx) : RunsTo Try.prog 32 rlcRLRBB (rlS2 m b X 11) .normal (rlS2 m ((rlF2 o m 11 (X, b)).2) ((rlF2 o m 11 (X, b)).1) 12) := gCut_runs hG (rlq2_11 (o := o) (m := m) (b := b) (X := X)) rfl (rlS2_k ..) rfl
theorem rlq2_12r (m : R6) (b : Bool) (X : Mx) : RunsTo Try.prog 32 rlcRLRBB (rlS2 m b X 12) .normal (rlS2 m ((rlF2 o m 12 (X, b)).2) ((rlF2 o m 12 (X, b)).1) 13) := gCut_runs hG (rlq2_12 (o := o) (m := m) (b := b) (X := X)) rfl (rlS2_k ..) rfl
theorem rlq2_xr (m : R6) (b : Bool) (X : Mx) : RunsTo Try.prog 32 rlcRLRBB (rlS2 m b X 13) (.exit 0) (rlS3 m b X) := gCut_runs hG (rlq2_x (o := o) (m := m) (b := b) (X := X)) rfl (rlS3_k ..) rfl
theorem rlq2_l (m : R6) (z0 : Mx × Bool) : RunsTo Try.prog 32 (.block 0 (.loop rlcRLRBB)) (rlS2 m z0.2 z0.1 0) .normal (rlS3 m ((iterF (rlF2 o m) 0 13 z0).2) ((iterF (rlF2 o m) 0 13 z0).1)) :=
  RunsTo.rounds (P := Try.prog) (N := 32) (c := rlcRLRBB) (id := 0) 13 (fun i z => (rlS2 m z.2 z.1 (i : Nat))) (fun z => (rlS3 m z.2 z.1)) (rlF2 o m)
    (fun i z => below13 (p := fun i => RunsTo Try.prog 32 rlcRLRBB (rlS2 m z.2 z.1 (i : Nat)) .normal (rlS2 m ((rlF2 o m i z).2) ((rlF2 o m i z).1) (i + 1 : Nat)))
      (rlq2_0r hG (m := m) (b := z.2) (X := z.1))
      (rlq2_1r hG (m := m) (b := z.2) (X := z.1))
      (rlq2_2r hG (m := m) (b := z.2) (X := z.1))
      (rlq2_3r hG (m := m) (b := z.2) (X := z.1))
      (rlq2_4r hG (m := m) (b := z.2) (X := z.1))
      (rlq2_5r hG (m := m) (b := z.2) (X := z.1))
      (rlq2_6r hG (m := m) (b := z.2) (X := z.1))
      (rlq2_7r hG (m := m) (b := z.2) (X := z.1))
      (rlq2_8r hG (m := m) (b := z.2) (X := z.1))
      (rlq2_9r hG (m := m) (b := z.2) (X := z.1))
      (rlq2_10r hG (m := m) (b := z.2) (X := z.1))
      (rlq2_11r hG (m := m) (b := z.2) (X := z.1))
      (rlq2_12r hG (m := m) (b := z.2) (X := z.1))
      i)
    (fun z => rlq2_xr hG (m := m) (b := z.2) (X := z.1)) z0
theorem rlq3_r (m : R6) (b : Bool) (X : Mx) : RunsTo Try.prog 32 rlcRR (rlS3 m b X) .ret (rlS4 b (x13of X)) := gRun_runs hG (rlq3 (o := o) (m := m) (b := b) (X := X))
end
/-- Rows less a row. -/
def lessO (o : Ops) (b : Bool) (a : X13 × R6 × Unit) : X13 × Bool :=
  let z2 := iterF (rlF2 o a.2.1) 0 13 (a.1.at, b)
  ((x13of z2.1), z2.2)
theorem rlR (b : Bool) (r : X13) : resA Try.prog (rlS4 b r) Try.f119.results.toList = some [.val (Cod.enc r)] := by kernel_rfl
theorem f74_is : Try.prog.funcs[119]? = some Try.f119 := by kernel_rfl
section
variable {o : Ops} (hG : GamOk Try.prog (eO o).gam)
include hG
theorem lessO_runs (b : Bool) (x : X13) (m : R6) : RunsTo Try.prog 32 rlC (startS 32 [.ptr 0 0, .val (Cod.enc x), .val (Cod.enc m)] (row 27 b)) .ret (rlS4 ((lessO o b (x, m, ())).2) ((lessO o b (x, m, ())).1)) := by
  have hc : rlC = (.seq rlcL (.seq (.seq rlcRLL (.block 0 (.loop rlcRLRBB))) rlcRR)) := by
    unfold rlC
    rw [rlC_is]
    rfl
  rw [hc]
  unfold lessO
  dsimp only
  have h0 := rlq0_r hG (x := x) (m := m) (b := b)
  have h1 := rlq1_r hG (m := m) (b := b) (X := x.at)
  have h2 := rlq2_l hG (m := m) (z0 := (x.at, b))
  dsimp only at h2
  generalize iterF (rlF2 o m) 0 13 (x.at, b) = z2 at h2 ⊢
  have h3 := rlq3_r hG (m := m) (b := z2.2) (X := z2.1)
  exact (h0.seq ((h1.seq h2).seq h3))
theorem lessO_ok : SumOk Try.prog 119 (S 27 (lessO o)) := by
  intro args cs r cs' h
  obtain ⟨b, a, rfl, rfl, rfl, rfl⟩ := S_sel h
  obtain ⟨x, m, u⟩ := a
  refine sum_runs f74_is (c := rlC) (by unfold rlC; rw [rlC_is]; rfl) rlN (by show 3 ≤ 32; omega) (by simp [row]) rfl rfl rfl (.inr rfl) (lessO_runs hG b x m) (rlR ..) rfl rfl (fun b' c hb => ?_) rfl rfl
  match b', hb with
  | 0, hb => cases hb; rfl
  | n + 1, hb => simp [row] at hb
end
end Go.Ab
