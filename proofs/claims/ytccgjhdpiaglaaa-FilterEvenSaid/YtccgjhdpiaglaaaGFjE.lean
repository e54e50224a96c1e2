/- A part of the proofs: lemmas, no statement of their own; no condition. -/
import Derived.Test.YtccgjhdpiaglaaaGFjB
import Derived.Test.YtccgjhdpiaglaaaGAbU
import Derived.Test.YtccgjhdpiaglaaaGRtF
/- filter.Move, by pieces. -/
namespace Go.Ab
open Go Go.Proofs
def X13.row (x : X13) : Nat → R6
  | 0 => x.r0
  | 1 => x.r1
  | 2 => x.r2
  | 3 => x.r3
  | 4 => x.r4
  | 5 => x.r5
  | 6 => x.r6
  | 7 => x.r7
  | 8 => x.r8
  | 9 => x.r9
  | 10 => x.r10
  | 11 => x.r11
  | _ => x.r12
def v4at (q : V4) : Nat → Int
  | 0 => q.w
  | 1 => q.x
  | 2 => q.y
  | _ => q.z
def v4of (v : Nat → Int) : V4 := ⟨v 0, v 1, v 2, v 3⟩
def setT (T : Mx) (k : Nat) (q : V4) : Mx := fun a c => bif Nat.beq a k then v4at q c else T a c
def setX (X : Mx) (k : Nat) (r : R6) : Mx := fun a c => bif Nat.beq a k then r.at c else X a c
def cells52 (T : Mx) : List AV := (nums 0 52).map fun j => .val (.int .i64 (T (j / 4) (j % 4)))
def V3.av (v : V3) : List AV := [.val (.int .i64 v.x), .val (.int .i64 v.y), .val (.int .i64 v.z)]
def V4.av (v : V4) : List AV := [.val (.int .i64 v.w), .val (.int .i64 v.x), .val (.int .i64 v.y), .val (.int .i64 v.z)]
def R6.av (r : R6) : List AV := r.cells.map .val
def Gs.av (g : Gs) : List AV := g.q.av ++ (g.bias.av ++ g.p.av)
structure FOps where
  o : Ops
  vs : Bool → V3 × V3 × Unit → V3 × Bool
  tu : TFun
  un : UFun
  mu : QFun
  tr : Bool → V4 × Unit → V3 × Bool
  bk : V4 × Unit → V4
  pt : Bool → Gs × Unit → X13 × Bool
  cen : CFun
  pro : PFun
  ont : OFun
  st : Bool → V4 × V3 × R6 × M6 × Unit → Two Gs Bool × Bool
def gamMv (F : FOps) : Gam := [(91, S 25 F.vs), (105, S 25 F.tu), (38, S 25 F.un), (41, S 25 F.mu), (56, S 25 F.tr), (42, S0 F.bk), (47, S 25 F.pt), (107, ctrS F.cen), (108, prdS F.pro), (109, ontS F.ont), (110, S 25 F.st), (104, S0 fun (p : R6 × Unit) => halvesV p.1), (106, S0 fun (p : V3 × V3 × Unit) => joinV p.1 p.2.1), (59, S 25 (op3 F.o.part)), (71, S 25 failV)]
abbrev eM (F : FOps) : Env := { gam := gamMv F }
def mv1 (F : FOps) (q : V4) (rate : V3) (ms : Int) (r : R6) (b : Bool) : V4 × Bool :=
  let w := F.vs b (rate, (halvesV r).b, ())
  let w0 := F.o.part w.2 w.1.x ms 1000
  let w1 := F.o.part w0.2 w.1.y ms 1000
  let w2 := F.o.part w1.2 w.1.z ms 1000
  let p := F.tu w2.2 ((halvesV r).a, q, ())
  F.tu p.2 (⟨w0.1, w1.1, w2.1⟩, p.1, ())
def mv2 (F : FOps) (mid t : V4) (r : R6) (b : Bool) : R6 × Bool :=
  let m := F.mu b (t, F.bk (mid, ()), ())
  let e := F.tr m.2 (m.1, ())
  (joinV e.1 (halvesV r).b, e.2)
noncomputable def vC : Code := Try.f51.body.getD .skip
noncomputable def v0 : Code := seqL vC
noncomputable def vT1 : Code := seqR vC
noncomputable def v1 : Code := seqL vT1
noncomputable def vT3 : Code := seqR vT1
noncomputable def v3 : Code := seqL vT3
noncomputable def v4 : Code := seqL (seqR vT3)
noncomputable def v5 : Code := seqL (seqR (seqR vT3))
noncomputable def vT6 : Code := seqR (seqR (seqR vT3))
noncomputable def v6 : Code := seqL (seqL vT6)
noncomputable def vL : Code := inB (inB (seqR (seqL vT6)))
noncomputable def vT18 : Code := seqR vT6
noncomputable def v18 : Code := seqL vT18
noncomputable def v19 : Code := seqL (seqL (seqR vT18))
noncomputable def vM : Code := inB (inB (seqR (seqL (seqR vT18))))
noncomputable def vT25 : Code := seqR (seqR vT18)
noncomputable def v25 : Code := seqL vT25
noncomputable def v26 : Code := seqL (seqR vT25)
noncomputable def v27 : Code := seqL (seqR (seqR vT25))
noncomputable def v28 : Code := seqL (seqR (seqR (seqR vT25)))
noncomputable def v29 : Code := seqR (seqR (seqR (seqR vT25)))
theorem vC_is : Try.f51.body = some (.seq v0 (.seq v1 (.seq v3 (.seq v4 (.seq v5 (.seq (.seq v6 (.block 0 (.loop vL))) (.seq v18 (.seq (.seq v19 (.block 4 (.loop vM))) (.seq v25 (.seq v26 (.seq v27 (.seq v28 v29)))))))))))) := by kernel_rfl
theorem vN : Try.f51.ntmps = 130 := by kernel_rfl
abbrev nH : Nat := 4096 + 7 * 2 ^ 180
abbrev nI : Nat := 4096 + 8 * 2 ^ 180
abbrev nJ : Nat := 4096 + 9 * 2 ^ 180
def vH (b : Bool) (g : Gs) (rate : V3) (e : Hp) : Hp := [(0, .row 25 [.val (.bool b)]), (nA, .row 67 g.av), (nB, .row 32 rate.av), (nC, .row 67 Gs.zero.av)] ++ e
def vF (ms : Int) (e : List (Nat × AV)) : List (Nat × AV) := [(0, .ptr 0 0), (3, .val (.int .i64 ms)), (5, .ptr nA 0), (6, .ptr nB 0), (8, .ptr nC 0)] ++ e
abbrev vK (e : List Nat) : List Nat := [0, nA, nB, nC] ++ e
abbrev vTs (e : List Nat) : List Nat := [0, 3, 5, 6, 8] ++ e
def vS0 (ms : Int) (b : Bool) (g : Gs) (rate : V3) : St := gSt 130 (vF ms []) (vH b g rate []) nD
def vS3 (ms : Int) (b : Bool) (g : Gs) (rate : V3) (x : X13) : St := gSt 130 (vF ms [(9, .ptr nD 0)]) (vH b g rate [(nD, .row 111 x.av)]) nE
def vS5 (ms : Int) (b : Bool) (g : Gs) (rate : V3) (x : X13) : St := gSt 130 (vF ms [(9, .ptr nD 0), (10, .ptr nE 0)]) (vH b g rate [(nD, .row 111 x.av), (nE, .row 112 (cells52 mx0))]) nF
def vSL (ms : Int) (k : Int) (g : Gs) (rate : V3) (x : X13) (T : Mx) (b : Bool) : St := gSt 130 (vF ms [(9, .ptr nD 0), (10, .ptr nE 0), (42, .val (Cod.enc x)), (43, .val (.int .i64 k))]) (vH b g rate [(nD, .row 111 x.av), (nE, .row 112 (cells52 T))]) nF
def vSX (ms : Int) (g : Gs) (rate : V3) (x : X13) (T : Mx) (b : Bool) : St := gSt 130 (vF ms [(9, .ptr nD 0), (10, .ptr nE 0)]) (vH b g rate [(nD, .row 111 x.av), (nE, .row 112 (cells52 T))]) nF
def vG (ms : Int) (e : List (Nat × AV)) : List (Nat × AV) := [(0, .ptr 0 0), (3, .val (.int .i64 ms)), (5, .ptr nA 0), (8, .ptr nC 0), (9, .ptr nD 0), (17, .ptr nF 0)] ++ e
def vI (b : Bool) (g : Gs) (mid : V4) (xs : List AV) (e : Hp) : Hp := [(0, .row 25 [.val (.bool b)]), (nA, .row 67 g.av), (nC, .row 67 Gs.zero.av), (nD, .row 111 xs), (nF, .row 54 mid.av)] ++ e
abbrev vK2 (e : List Nat) : List Nat := [0, nA, nC, nD, nF] ++ e
abbrev vT2 (e : List Nat) : List Nat := [0, 3, 5, 8, 9, 17] ++ e
def vS18 (ms : Int) (g : Gs) (mid : V4) (x : X13) (T : Mx) (b : Bool) : St := gSt 130 (vG ms [(10, .ptr nE 0)]) (vI b g mid x.av [(nE, .row 112 (cells52 T))]) nG
def vSM (ms : Int) (k : Int) (g : Gs) (mid : V4) (x : X13) (T X : Mx) (b : Bool) : St := gSt 130 (vG ms [(10, .ptr nE 0), (83, .val (Cod.enc x)), (84, .val (.int .i64 k))]) (vI b g mid (cells13 X) [(nE, .row 112 (cells52 T))]) nG
def vSY (ms : Int) (g : Gs) (mid : V4) (X : Mx) (b : Bool) : St := gSt 130 (vG ms []) (vI b g mid (cells13 X) []) nG
def vS25 (ms : Int) (g : Gs) (mid : V4) (x : X13) (m : R6) (b : Bool) : St := gSt 130 (vG ms [(22, .ptr nG 0)]) (vI b g mid x.av [(nG, .row 45 m.av)]) nH
def vS26 (ms : Int) (g : Gs) (mid : V4) (x : X13) (m : R6) (p : M6) (b : Bool) : St := gSt 130 (vG ms [(22, .ptr nG 0), (23, .ptr nH 0)]) (vI b g mid x.av [(nG, .row 45 m.av), (nH, .row 47 p.av)]) nI
def vS28 (g : Gs) (b : Bool) : St := gSt 130 [(8, .ptr nC 0), (24, .ptr nI 0)] [(0, .row 25 [.val (.bool b)]), (nC, .row 67 Gs.zero.av), (nI, .row 67 g.av)] nJ
def vS29 (g : Gs) (b : Bool) : St := gSt 130 [(8, .ptr nC 0)] [(0, .row 25 [.val (.bool b)]), (nC, .row 67 g.av)] nJ
section
variable (F : FOps) (ms k : Int) (b : Bool) (g g' : Gs) (rate : V3) (x : X13) (T X : Mx) (mid : V4) (m : R6) (p : M6)
theorem vq0 : gRun Try.prog (eM F) 130 v0 (startS 130 [.ptr 0 0, .val (Cod.enc g), .val (Cod.enc rate), .val (.int .i64 ms)] (row 25 b)) (vK []) (vTs []) = some (.normal, vS0 ms b g rate) := by kernel_rfl
theorem vq1 : gRun Try.prog (eM F) 130 v1 (vS0 ms b g rate) (vK []) (vTs []) = bif decide (ms < 10) then some (.normal, vS0 ms true g rate) else bif bif false then true else decide (ms > 10000) then some (.normal, vS0 ms true g rate) else some (.normal, { vS0 ms b g rate with lo := nD }) := by kernel_rfl
theorem vq3 : gRun Try.prog (eM F) 130 v3 (vS0 ms b g rate) (vK [nD]) (vTs [9]) = some (.normal, vS3 ms (F.pt b (g, ())).2 g rate (F.pt b (g, ())).1) := by kernel_rfl
theorem vq4 : gRun Try.prog (eM F) 130 v4 (vS3 ms b g rate x) (vK [nD]) (vTs [9]) = some (.normal, vS3 ms (F.vs b (rate, g.bias, ())).2 g (F.vs b (rate, g.bias, ())).1 x) := by kernel_rfl
theorem vq5 : gRun Try.prog (eM F) 130 v5 (vS3 ms b g rate x) (vK [nD, nE]) (vTs [9, 10]) = some (.normal, vS5 ms b g rate x) := by kernel_rfl
theorem vq6 : gRun Try.prog (eM F) 130 v6 (vS5 ms b g rate x) (vK [nD, nE]) (vTs [9, 10, 42, 43]) = some (.normal, vSL ms 0 g rate x mx0 b) := by kernel_rfl
theorem vqL_0 : gCut Try.prog (eM F) 130 vL (vSL ms 0 g rate x T b) nF (vK [nD, nE]) (vTs [9, 10, 42, 43]) = some (.normal, vSL ms 1 g rate x (setT T 0 (mv1 F g.q rate ms (x.row 0) b).1) (mv1 F g.q rate ms (x.row 0) b).2) := by kernel_rfl
theorem vqL_1 : gCut Try.prog (eM F) 130 vL (vSL ms 1 g rate x T b) nF (vK [nD, nE]) (vTs [9, 10, 42, 43]) = some (.normal, vSL ms 2 g rate x (setT T 1 (mv1 F g.q rate ms (x.row 1) b).1) (mv1 F g.q rate ms (x.row 1) b).2) := by kernel_rfl
theorem vqL_2 : gCut Try.prog (eM F) 130 vL (vSL ms 2 g rate x T b) nF (vK [nD, nE]) (vTs [9, 10, 42, 43]) = some (.normal, vSL ms 3 g rate x (setT T 2 (mv1 F g.q rate ms (x.row 2) b).1) (mv1 F g.q rate ms (x.row 2) b).2) := by kernel_rfl
theorem vqL_3 : gCut Try.prog (eM F) 130 vL (vSL ms 3 g rate x T b) nF (vK [nD, nE]) (vTs [9, 10, 42, 43]) = some (.normal, vSL ms 4 g rate x (setT T 3 (mv1 F g.q rate ms (x.row 3) b).1) (mv1 F g.q rate ms (x.row 3) b).2) := by kernel_rfl
theorem vqL_4 : gCut Try.prog (eM F) 130 vL (vSL ms 4 g rate x T b) nF (vK [nD, nE]) (vTs [9, 10, 42, 43]) = some (.normal, vSL ms 5 g rate x (setT T 4 (mv1 F g.q rate ms (x.row 4) b).1) (mv1 F g.q rate ms (x.row 4) b).2) := by kernel_rfl
theorem vqL_5 : gCut Try.prog (eM F) 130 vL (vSL ms 5 g rate x T b) nF (vK [nD, nE]) (vTs [9, 10, 42, 43]) = some (.normal, vSL ms 6 g rate x (setT T 5 (mv1 F g.q rate ms (x.row 5) b).1) (mv1 F g.q rate ms (x.row 5) b).2) := by kernel_rfl
theorem vqL_6 : gCut Try.prog (eM F) 130 vL (vSL ms 6 g rate x T b) nF (vK [nD, nE]) (vTs [9, 10, 42, 43]) = some (.normal, vSL ms 7 g rate x (setT T 6 (mv1 F g.q rate ms (x.row 6) b).1) (mv1 F g.q rate ms (x.row 6) b).2) := by kernel_rfl
theorem vqL_7 : gCut Try.prog (eM F) 130 vL (vSL ms 7 g rate x T b) nF (vK [nD, nE]) (vTs [9, 10, 42, 43]) = some (.normal, vSL ms 8 g rate x (setT T 7 (mv1 F g.q rate ms (x.row 7) b).1) (mv1 F g.q rate ms (x.row 7) b).2) := by kernel_rfl
theorem vqL_8 : gCut Try.prog (eM F) 130 vL (vSL ms 8 g rate x T b) nF (vK [nD, nE]) (vTs [9, 10, 42, 43]) = some (.normal, vSL ms 9 g rate x (setT T 8 (mv1 F g.q rate ms (x.row 8) b).1) (mv1 F g.q rate ms (x.row 8) b).2) := by kernel_rfl
theorem vqL_9 : gCut Try.prog (eM F) 130 vL (vSL ms 9 g rate x T b) nF (vK [nD, nE]) (vTs [9, 10, 42, 43]) = some (.normal, vSL ms 10 g rate x (setT T 9 (mv1 F g.q rate ms (x.row 9) b).1) (mv1 F g.q rate ms (x.row 9) b).2) := by kernel_rfl
theorem vqL_10 : gCut Try.prog (eM F) 130 vL (vSL ms 10 g rate x T b) nF (vK [nD, nE]) (vTs [9, 10, 42, 43]) = some (.normal, vSL ms 11 g rate x (setT T 10 (mv1 F g.q rate ms (x.row 10) b).1) (mv1 F g.q rate ms (x.row 10) b).2) := by kernel_rfl
theorem vqL_11 : gCut Try.prog (eM F) 130 vL (vSL ms 11 g rate x T b) nF (vK [nD, nE]) (vTs [9, 10, 42, 43]) = some (.normal, vSL ms 12 g rate x (setT T 11 (mv1 F g.q rate ms (x.row 11) b).1) (mv1 F g.q rate ms (x.row 11) b).2) := by kernel_rfl
theorem vqL_12 : gCut Try.prog (eM F) 130 vL (vSL ms 12 g rate x T b) nF (vK [nD, nE]) (vTs [9, 10, 42, 43]) = some (.normal, vSL ms 13 g rate x (setT T 12 (mv1 F g.q rate ms (x.row 12) b).1) (mv1 F g.q rate ms (x.row 12) b).2) := by kernel_rfl
theorem vqL_13 : gCut Try.prog (eM F) 130 vL (vSL ms 13 g rate x T b) nF (vK [nD, nE]) (vTs [9, 10]) = some (.exit 0, vSX ms g rate x T b) := by kernel_rfl
theorem vq18 : gRun Try.prog (eM F) 130 v18 (vSX ms g rate x T b) (vK2 [nE]) (vT2 [10]) = some (.normal, vS18 ms g (F.un b (v4of (T 0), ())).1 x T (F.un b (v4of (T 0), ())).2) := by kernel_rfl
theorem vq19 : gRun Try.prog (eM F) 130 v19 (vS18 ms g mid x T b) (vK2 [nE]) (vT2 [10, 83, 84]) = some (.normal, vSM ms 0 g mid x T x.at b) := by kernel_rfl
theorem vqM_0 : gCut Try.prog (eM F) 130 vM (vSM ms 0 g mid x T X b) nG (vK2 [nE]) (vT2 [10, 83, 84]) = some (.normal, vSM ms 1 g mid x T (setX X 0 (mv2 F mid (v4of (T 0)) (x.row 0) b).1) (mv2 F mid (v4of (T 0)) (x.row 0) b).2) := by kernel_rfl
theorem vqM_1 : gCut Try.prog (eM F) 130 vM (vSM ms 1 g mid x T X b) nG (vK2 [nE]) (vT2 [10, 83, 84]) = some (.normal, vSM ms 2 g mid x T (setX X 1 (mv2 F mid (v4of (T 1)) (x.row 1) b).1) (mv2 F mid (v4of (T 1)) (x.row 1) b).2) := by kernel_rfl
theorem vqM_2 : gCut Try.prog (eM F) 130 vM (vSM ms 2 g mid x T X b) nG (vK2 [nE]) (vT2 [10, 83, 84]) = some (.normal, vSM ms 3 g mid x T (setX X 2 (mv2 F mid (v4of (T 2)) (x.row 2) b).1) (mv2 F mid (v4of (T 2)) (x.row 2) b).2) := by kernel_rfl
theorem vqM_3 : gCut Try.prog (eM F) 130 vM (vSM ms 3 g mid x T X b) nG (vK2 [nE]) (vT2 [10, 83, 84]) = some (.normal, vSM ms 4 g mid x T (setX X 3 (mv2 F mid (v4of (T 3)) (x.row 3) b).1) (mv2 F mid (v4of (T 3)) (x.row 3) b).2) := by kernel_rfl
theorem vqM_4 : gCut Try.prog (eM F) 130 vM (vSM ms 4 g mid x T X b) nG (vK2 [nE]) (vT2 [10, 83, 84]) = some (.normal, vSM ms 5 g mid x T (setX X 4 (mv2 F mid (v4of (T 4)) (x.row 4) b).1) (mv2 F mid (v4of (T 4)) (x.row 4) b).2) := by kernel_rfl
theorem vqM_5 : gCut Try.prog (eM F) 130 vM (vSM ms 5 g mid x T X b) nG (vK2 [nE]) (vT2 [10, 83, 84]) = some (.normal, vSM ms 6 g mid x T (setX X 5 (mv2 F mid (v4of (T 5)) (x.row 5) b).1) (mv2 F mid (v4of (T 5)) (x.row 5) b).2) := by kernel_rfl
theorem vqM_6 : gCut Try.prog (eM F) 130 vM (vSM ms 6 g mid x T X b) nG (vK2 [nE]) (vT2 [10, 83, 84]) = some (.normal, vSM ms 7 g mid x T (setX X 6 (mv2 F mid (v4of (T 6)) (x.row 6) b).1) (mv2 F mid (v4of (T 6)) (x.row 6) b).2) := by kernel_rfl
theorem vqM_7 : gCut Try.prog (eM F) 130 vM (vSM ms 7 g mid x T X b) nG (vK2 [nE]) (vT2 [10, 83, 84]) = some (.normal, vSM ms 8 g mid x T (setX X 7 (mv2 F mid (v4of (T 7)) (x.row 7) b).1) (mv2 F mid (v4of (T 7)) (x.row 7) b).2) := by kernel_rfl
theorem vqM_8 : gCut Try.prog (eM F) 130 vM (vSM ms 8 g mid x T X b) nG (vK2 [nE]) (vT2 [10, 83, 84]) = some (.normal, vSM ms 9 g mid x T (setX X 8 (mv2 F mid (v4of (T 8)) (x.row 8) b).1) (mv2 F mid (v4of (T 8)) (x.row 8) b).2) := by kernel_rfl
theorem vqM_9 : gCut Try.prog (eM F) 130 vM (vSM ms 9 g mid x T X b) nG (vK2 [nE]) (vT2 [10, 83, 84]) = some (.normal, vSM ms 10 g mid x T (setX X 9 (mv2 F mid (v4of (T 9)) (x.row 9) b).1) (mv2 F mid (v4of (T 9)) (x.row 9) b).2) := by kernel_rfl
theorem vqM_10 : gCut Try.prog (eM F) 130 vM (vSM ms 10 g mid x T X b) nG (vK2 [nE]) (vT2 [10, 83, 84]) = some (.normal, vSM ms 11 g mid x T (setX X 10 (mv2 F mid (v4of (T 10)) (x.row 10) b).1) (mv2 F mid (v4of (T 10)) (x.row 10) b).2) := by kernel_rfl
theorem vqM_11 : gCut Try.prog (eM F) 130 vM (vSM ms 11 g mid x T X b) nG (vK2 [nE]) (vT2 [10, 83, 84]) = some (.normal, vSM ms 12 g mid x T (setX X 11 (mv2 F mid (v4of (T 11)) (x.row 11) b).1) (mv2 F mid (v4of (T 11)) (x.row 11) b).2) := by kernel_rfl
theorem vqM_12 : gCut Try.prog (eM F) 130 vM (vSM ms 12 g mid x T X b) nG (vK2 [nE]) (vT2 [10, 83, 84]) = some (.normal, vSM ms 13 g mid x T (setX X 12 (mv2 F mid (v4of (T 12)) (x.row 12) b).1) (mv2 F mid (v4of (T 12)) (x.row 12) b).2) := by kernel_rfl
theorem vqM_13 : gCut Try.prog (eM F) 130 vM (vSM ms 13 g mid x T X b) nG (vK2 []) (vT2 []) = some (.exit 4, vSY ms g mid X b) := by kernel_rfl
theorem vq25 : gRun Try.prog (eM F) 130 v25 (vSY ms g mid X b) (vK2 [nG]) (vT2 [22]) = some (.normal, vS25 ms g mid (F.cen b (x13of X)).1.x (F.cen b (x13of X)).1.m (F.cen b (x13of X)).2) := by kernel_rfl
theorem vq26 : gRun Try.prog (eM F) 130 v26 (vS25 ms g mid x m b) (vK2 [nG, nH]) (vT2 [22, 23]) = some (.normal, vS26 ms g mid x m (F.pro b x x).1 (F.pro b x x).2) := by kernel_rfl
def mv3 (F : FOps) (ms : Int) (p : M6) (b : Bool) : M6 × Bool :=
  let a := F.o.part b 65536 ms 1000
  let d := F.o.part a.2 1024 ms 1000
  F.ont d.2 p a.1 d.1
theorem vq27 : gRun Try.prog (eM F) 130 v27 (vS26 ms g mid x m p b) (vK2 [nG, nH]) (vT2 [22, 23]) = some (.normal, vS26 ms g mid x m (mv3 F ms p b).1 (mv3 F ms p b).2) := by kernel_rfl
theorem vq28 : gRun Try.prog (eM F) 130 v28 (vS26 ms g mid x m p b) [0, nC, nI] [8, 24] = some (.normal, vS28 (F.st b (mid, g.bias, m, p, ())).1.a (F.st b (mid, g.bias, m, p, ())).2) := by kernel_rfl
theorem vq29 : gRun Try.prog (eM F) 130 v29 (vS28 g b) [0, nC] [8] = some (.ret, vS29 g b) := by kernel_rfl
theorem vR : resA Try.prog (vS29 g b) Try.f51.results.toList = some [.val (Cod.enc g)] := by kernel_rfl
theorem vcL : okClean nF (vSL ms k g rate x T b) = true := by kernel_rfl
theorem vcX : okClean nF (vSX ms g rate x T b) = true := by kernel_rfl
theorem vcM : okClean nG (vSM ms k g mid x T X b) = true := by kernel_rfl
theorem vcY : okClean nG (vSY ms g mid X b) = true := by kernel_rfl
end
section
variable {F : FOps} (hG : GamOk Try.prog (eM F).gam) (ms k : Int) (b : Bool) (g : Gs) (rate : V3) (x : X13) (T X : Mx) (mid : V4)
include hG
omit hG in
theorem vlL : (vSL ms k g rate x T b).lo = nF := rfl
omit hG in
theorem vlM : (vSM ms k g mid x T X b).lo = nG := rfl
def mvF1 (F : FOps) (q : V4) (rate : V3) (ms : Int) (x : X13) (k : Nat) (z : Mx × Bool) : Mx × Bool := (setT z.1 k (mv1 F q rate ms (x.row k) z.2).1, (mv1 F q rate ms (x.row k) z.2).2)
def mvF2 (F : FOps) (mid : V4) (x : X13) (T : Mx) (k : Nat) (z : Mx × Bool) : Mx × Bool := (setX z.1 k (mv2 F mid (v4of (T k)) (x.row k) z.2).1, (mv2 F mid (v4of (T k)) (x.row k) z.2).2)
theorem vuL_0 : RunsTo Try.prog 130 vL (vSL ms 0 g rate x T b) .normal (vSL ms 1 g rate x (mvF1 F g.q rate ms x 0 (T, b)).1 (mvF1 F g.q rate ms x 0 (T, b)).2) := gCut_runs hG (vqL_0 F ms b g rate x T) (vlL ..) (vcL ..) rfl
theorem vuM_0 : RunsTo Try.prog 130 vM (vSM ms 0 g mid x T X b) .normal (vSM ms 1 g mid x T (mvF2 F mid x T 0 (X, b)).1 (mvF2 F mid x T 0 (X, b)).2) := gCut_runs hG (vqM_0 F ms b g x T X mid) (vlM ..) (vcM ..) rfl
theorem vuL_1 : RunsTo Try.prog 130 vL (vSL ms 1 g rate x T b) .normal (vSL ms 2 g rate x (mvF1 F g.q rate ms x 1 (T, b)).1 (mvF1 F g.q rate ms x 1 (T, b)).2) := gCut_runs hG (vqL_1 F ms b g rate x T) (vlL ..) (vcL ..) rfl
theorem vuM_1 : RunsTo Try.prog 130 vM (vSM ms 1 g mid x T X b) .normal (vSM ms 2 g mid x T (mvF2 F mid x T 1 (X, b)).1 (mvF2 F mid x T 1 (X, b)).2) := gCut_runs hG (vqM_1 F ms b g x T X mid) (vlM ..) (vcM ..) rfl
theorem vuL_2 : RunsTo Try.prog 130 vL (vSL ms 2 g rate x T b) .normal (vSL ms 3 g rate x (mvF1 F g.q rate ms x 2 (T, b)).1 (mvF1 F g.q rate ms x 2 (T, b)).2) := gCut_runs hG (vqL_2 F ms b g rate x T) (vlL ..) (vcL ..) rfl
theorem vuM_2 : RunsTo Try.prog 130 vM (vSM ms 2 g mid x T X b) .normal (vSM ms 3 g mid x T (mvF2 F mid x T 2 (X, b)).1 (mvF2 F mid x T 2 (X, b)).2) := gCut_runs hG (vqM_2 F ms b g x T X mid) (vlM ..) (vcM ..) rfl
theorem vuL_3 : RunsTo Try.prog 130 vL (vSL ms 3 g rate x T b) .normal (vSL ms 4 g rate x (mvF1 F g.q rate ms x 3 (T, b)).1 (mvF1 F g.q rate ms x 3 (T, b)).2) := gCut_runs hG (vqL_3 F ms b g rate x T) (vlL ..) (vcL ..) rfl
theorem vuM_3 : RunsTo Try.prog 130 vM (vSM ms 3 g mid x T X b) .normal (vSM ms 4 g mid x T (mvF2 F mid x T 3 (X, b)).1 (mvF2 F mid x T 3 (X, b)).2) := gCut_runs hG (vqM_3 F ms b g x T X mid) (vlM ..) (vcM ..) rfl
theorem vuL_4 : RunsTo Try.prog 130 vL (vSL ms 4 g rate x T b) .normal (vSL ms 5 g rate x (mvF1 F g.q rate ms x 4 (T, b)).1 (mvF1 F g.q rate ms x 4 (T, b)).2) := gCut_runs hG (vqL_4 F ms b g rate x T) (vlL ..) (vcL ..) rfl
theorem vuM_4 : RunsTo Try.prog 130 vM (vSM ms 4 g mid x T X b) .normal (vSM ms 5 g mid x T (mvF2 F mid x T 4 (X, b)).1 (mvF2 F mid x T 4 (X, b)).2) := gCut_runs hG (vqM_4 F ms b g x T X mid) (vlM ..) (vcM ..) rfl
theorem vuL_5 : RunsTo Try.prog 130 vL (vSL ms 5 g rate x T b) .normal (vSL ms 6 g rate x (mvF1 F g.q rate ms x 5 (T, b)).1 (mvF1 F g.q rate ms x 5 (T, b)).2) := gCut_runs hG (vqL_5 F ms b g rate x T) (vlL ..) (vcL ..) rfl
theorem vuM_5 : RunsTo Try.prog 130 vM (vSM ms 5 g mid x T X b) .normal (vSM ms 6 g mid x T (mvF2 F mid x T 5 (X, b)).1 (mvF2 F mid x T 5 (X, b)).2) := gCut_runs hG (vqM_5 F ms b g x T X mid) (vlM ..) (vcM ..) rfl
theorem vuL_6 : RunsTo Try.prog 130 vL (vSL ms 6 g rate x T b) .normal (vSL ms 7 g rate x (mvF1 F g.q rate ms x 6 (T, b)).1 (mvF1 F g.q rate ms x 6 (T, b)).2) := gCut_runs hG (vqL_6 F ms b g rate x T) (vlL ..) (vcL ..) rfl
theorem vuM_6 : RunsTo Try.prog 130 vM (vSM ms 6 g mid x T X b) .normal (vSM ms 7 g mid x T (mvF2 F mid x T 6 (X, b)).1 (mvF2 F mid x T 6 (X, b)).2) := gCut_runs hG (vqM_6 F ms b g x T X mid) (vlM ..) (vcM ..) rfl
theorem vuL_7 : RunsTo Try.prog 130 vL (vSL ms 7 g rate x T b) .normal (vSL ms 8 g rate x (mvF1 F g.q rate ms x 7 (T, b)).1 (mvF1 F g.q rate ms x 7 (T, b)).2) := gCut_runs hG (vqL_7 F ms b g rate x T) (vlL ..) (vcL ..) rfl
theorem vuM_7 : RunsTo Try.prog 130 vM (vSM ms 7 g mid x T X b) .normal (vSM ms 8 g mid x T (mvF2 F mid x T 7 (X, b)).1 (mvF2 F mid x T 7 (X, b)).2) := gCut_runs hG (vqM_7 F ms b g x T X mid) (vlM ..) (vcM ..) rfl
theorem vuL_8 : RunsTo Try.prog 130 vL (vSL ms 8 g rate x T b) .normal (vSL ms 9 g rate x (mvF1 F g.q rate ms x 8 (T, b)).1 (mvF1 F g.q rate ms x 8 (T, b)).2) := gCut_runs hG (vqL_8 F ms b g rate x T) (vlL ..) (vcL ..) rfl
theorem vuM_8 : RunsTo Try.prog 130 vM (vSM ms 8 g mid x T X b) .normal (vSM ms 9 g mid x T (mvF2 F mid x T 8 (X, b)).1 (mvF2 F mid x T 8 (X, b)).2) := gCut_runs hG (vqM_8 F ms b g x T X mid) (vlM ..) (vcM ..) rfl
theorem vuL_9 : RunsTo Try.prog 130 vL (vSL ms 9 g rate x T b) .normal (vSL ms 10 g rate x (mvF1 F g.q rate ms x 9 (T, b)).1 (mvF1 F g.q rate ms x 9 (T, b)).2) := gCut_runs hG (vqL_9 F ms b g rate x T) (vlL ..) (vcL ..) rfl
theorem vuM_9 : RunsTo Try.prog 130 vM (vSM ms 9 g mid x T X b) .normal (vSM ms 10 g mid x T (mvF2 F mid x T 9 (X, b)).1 (mvF2 F mid x T 9 (X, b)).2) := gCut_runs hG (vqM_9 F ms b g x T X mid) (vlM ..) (vcM ..) rfl
theorem vuL_10 : RunsTo Try.prog 130 vL (vSL ms 10 g rate x T b) .normal (vSL ms 11 g rate x (mvF1 F g.q rate ms x 10 (T, b)).1 (mvF1 F g.q rate ms x 10 (T, b)).2) := gCut_runs hG (vqL_10 F ms b g rate x T) (vlL ..) (vcL ..) rfl
theorem vuM_10 : RunsTo Try.prog 130 vM (vSM ms 10 g mid x T X b) .normal (vSM ms 11 g mid x T (mvF2 F mid x T 10 (X, b)).1 (mvF2 F mid x T 10 (X, b)).2) := gCut_runs hG (vqM_10 F ms b g x T X mid) (vlM ..) (vcM ..) rfl
theorem vuL_11 : RunsTo Try.prog 130 vL (vSL ms 11 g rate x T b) .normal (vSL ms 12 g rate x (mvF1 F g.q rate ms x 11 (T, b)).1 (mvF1 F g.q rate ms x 11 (T, b)).2) := gCut_runs hG (vqL_11 F ms b g rate x T) (vlL ..) (vcL ..) rfl
theorem vuM_11 : RunsTo Try.prog 130 vM (vSM ms 11 g mid x T X b) .normal (vSM ms 12 g mid x T (mvF2 F mid x T 11 (X, b)).1 (mvF2 F mid x T 11 (X, b)).2) := gCut_runs hG (vqM_11 F ms b g x T X mid) (vlM ..) (vcM ..) rfl
theorem vuL_12 : RunsTo Try.prog 130 vL (vSL ms 12 g rate x T b) .normal (vSL ms 13 g rate x (mvF1 F g.q rate ms x 12 (T, b)).1 (mvF1 F g.q rate ms x 12 (T, b)).2) := gCut_runs hG (vqL_12 F ms b g rate x T) (vlL ..) (vcL ..) rfl
theorem vuM_12 : RunsTo Try.prog 130 vM (vSM ms 12 g mid x T X b) .normal (vSM ms 13 g mid x T (mvF2 F mid x T 12 (X, b)).1 (mvF2 F mid x T 12 (X, b)).2) := gCut_runs hG (vqM_12 F ms b g x T X mid) (vlM ..) (vcM ..) rfl
theorem vuL_13 : RunsTo Try.prog 130 vL (vSL ms 13 g rate x T b) (.exit 0) (vSX ms g rate x T b) := gCut_runs hG (vqL_13 F ms b g rate x T) (vlL ..) (vcX ..) rfl
theorem vuM_13 : RunsTo Try.prog 130 vM (vSM ms 13 g mid x T X b) (.exit 4) (vSY ms g mid X b) := gCut_runs hG (vqM_13 F ms b g x T X mid) (vlM ..) (vcY ..) rfl
theorem vLoop : RunsTo Try.prog 130 (.block 0 (.loop vL)) (vSL ms 0 g rate x T b) .normal (vSX ms g rate x (iterF (mvF1 F g.q rate ms x) 0 13 (T, b)).1 (iterF (mvF1 F g.q rate ms x) 0 13 (T, b)).2) :=
  RunsTo.rounds (P := Try.prog) (N := 130) (c := vL) (id := 0) 13 (fun k z => vSL ms k g rate x z.1 z.2) (fun z => vSX ms g rate x z.1 z.2) (mvF1 F g.q rate ms x)
    (fun k z hk => match k, hk with
      | 0, _ => vuL_0 hG ms z.2 g rate x z.1
      | 1, _ => vuL_1 hG ms z.2 g rate x z.1
      | 2, _ => vuL_2 hG ms z.2 g rate x z.1
      | 3, _ => vuL_3 hG ms z.2 g rate x z.1
      | 4, _ => vuL_4 hG ms z.2 g rate x z.1
      | 5, _ => vuL_5 hG ms z.2 g rate x z.1
      | 6, _ => vuL_6 hG ms z.2 g rate x z.1
      | 7, _ => vuL_7 hG ms z.2 g rate x z.1
      | 8, _ => vuL_8 hG ms z.2 g rate x z.1
      | 9, _ => vuL_9 hG ms z.2 g rate x z.1
      | 10, _ => vuL_10 hG ms z.2 g rate x z.1
      | 11, _ => vuL_11 hG ms z.2 g rate x z.1
      | 12, _ => vuL_12 hG ms z.2 g rate x z.1
      | n + 13, h => absurd h (by omega))
    (fun z => vuL_13 hG ms z.2 g rate x z.1) (T, b)
theorem vMoop : RunsTo Try.prog 130 (.block 4 (.loop vM)) (vSM ms 0 g mid x T X b) .normal (vSY ms g mid (iterF (mvF2 F mid x T) 0 13 (X, b)).1 (iterF (mvF2 F mid x T) 0 13 (X, b)).2) :=
  RunsTo.rounds (P := Try.prog) (N := 130) (c := vM) (id := 4) 13 (fun k z => vSM ms k g mid x T z.1 z.2) (fun z => vSY ms g mid z.1 z.2) (mvF2 F mid x T)
    (fun k z hk => match k, hk with
      | 0, _ => vuM_0 hG ms z.2 g x T z.1 mid
      | 1, _ => vuM_1 hG ms z.2 g x T z.1 mid
      | 2, _ => vuM_2 hG ms z.2 g x T z.1 mid
      | 3, _ => vuM_3 hG ms z.2 g x T z.1 mid
      | 4, _ => vuM_4 hG ms z.2 g x T z.1 mid
      | 5, _ => vuM_5 hG ms z.2 g x T z.1 mid
      | 6, _ => vuM_6 hG ms z.2 g x T z.1 mid
      | 7, _ => vuM_7 hG ms z.2 g x T z.1 mid
      | 8, _ => vuM_8 hG ms z.2 g x T z.1 mid
      | 9, _ => vuM_9 hG ms z.2 g x T z.1 mid
      | 10, _ => vuM_10 hG ms z.2 g x T z.1 mid
      | 11, _ => vuM_11 hG ms z.2 g x T z.1 mid
      | 12, _ => vuM_12 hG ms z.2 g x T z.1 mid
      | n + 13, h => absurd h (by omega))
    (fun z => vuM_13 hG ms z.2 g x T z.1 mid) (X, b)
end
/-- A guess, moved by a rate for so many milliseconds. -/
def moveB (ms : Int) (b : Bool) : Bool := bif decide (ms < 10) then true else bif decide (ms > 10000) then true else b
def moveO (F : FOps) (b : Bool) (a : Gs × V3 × Int × Unit) : Gs × Bool :=
  let x := F.pt (moveB a.2.2.1 b) (a.1, ())
  let r := F.vs x.2 (a.2.1, a.1.bias, ())
  let z := iterF (mvF1 F a.1.q r.1 a.2.2.1 x.1) 0 13 (mx0, r.2)
  let mid := F.un z.2 (v4of (z.1 0), ())
  let y := iterF (mvF2 F mid.1 x.1 z.1) 0 13 (x.1.at, mid.2)
  let c := F.cen y.2 (x13of y.1)
  let p := F.pro c.2 c.1.x c.1.x
  let n := mv3 F a.2.2.1 p.1 p.2
  let s := F.st n.2 (mid.1, a.1.bias, c.1.m, n.1, ())
  (s.1.a, s.2)
theorem move_runs {F : FOps} (hG : GamOk Try.prog (eM F).gam) (b : Bool) (a : Gs × V3 × Int × Unit) : RunsTo Try.prog 130 vC (startS 130 (.ptr 0 0 :: Args.encs a) (row 25 b)) .ret (vS29 (moveO F b a).1 (moveO F b a).2) := by
  obtain ⟨g, rate, ms, _⟩ := a
  have hc : vC = .seq v0 (.seq v1 (.seq v3 (.seq v4 (.seq v5 (.seq (.seq v6 (.block 0 (.loop vL))) (.seq v18 (.seq (.seq v19 (.block 4 (.loop vM))) (.seq v25 (.seq v26 (.seq v27 (.seq v28 v29))))))))))) := by
    unfold vC
    rw [vC_is]
    rfl
  rw [hc]
  have h1 : RunsTo Try.prog 130 v1 (vS0 ms b g rate) .normal (vS0 ms (moveB ms b) g rate) := by
    refine gRun_runs hG ((vq1 F ms b g rate).trans ?_)
    unfold moveB
    cases decide (ms < 10) <;> cases decide (ms > 10000) <;> rfl
  unfold moveO
  dsimp only
  have h3 := gRun_runs hG (vq3 F ms (moveB ms b) g rate)
  generalize F.pt (moveB ms b) (g, ()) = x at h3 ⊢
  have h4 := gRun_runs hG (vq4 F ms x.2 g rate x.1)
  generalize F.vs x.2 (rate, g.bias, ()) = r at h4 ⊢
  have h5 := gRun_runs hG (vq5 F ms r.2 g r.1 x.1)
  have h6 := (gRun_runs hG (vq6 F ms r.2 g r.1 x.1)).seq (vLoop hG ms r.2 g r.1 x.1 mx0)
  generalize iterF (mvF1 F g.q r.1 ms x.1) 0 13 (mx0, r.2) = z at h6 ⊢
  have h18 := gRun_runs hG (vq18 F ms z.2 g r.1 x.1 z.1)
  generalize F.un z.2 (v4of (z.1 0), ()) = mid at h18 ⊢
  have h19 := (gRun_runs hG (vq19 F ms mid.2 g x.1 z.1 mid.1)).seq (vMoop hG ms mid.2 g x.1 z.1 x.1.at mid.1)
  generalize iterF (mvF2 F mid.1 x.1 z.1) 0 13 (x.1.at, mid.2) = y at h19 ⊢
  have h25 := gRun_runs hG (vq25 F ms y.2 g y.1 mid.1)
  generalize F.cen y.2 (x13of y.1) = c at h25 ⊢
  have h26 := gRun_runs hG (vq26 F ms c.2 g c.1.x mid.1 c.1.m)
  generalize F.pro c.2 c.1.x c.1.x = p at h26 ⊢
  have h27 := gRun_runs hG (vq27 F ms p.2 g c.1.x mid.1 c.1.m p.1)
  generalize mv3 F ms p.1 p.2 = n at h27 ⊢
  have h28 := gRun_runs hG (vq28 F ms n.2 g c.1.x mid.1 c.1.m n.1)
  generalize F.st n.2 (mid.1, g.bias, c.1.m, n.1, ()) = s at h28 ⊢
  have h29 := gRun_runs hG (vq29 F s.2 s.1.a)
  exact (gRun_runs hG (vq0 F ms b g rate)).seq (h1.seq (h3.seq (h4.seq (h5.seq (h6.seq (h18.seq (h19.seq (h25.seq (h26.seq (h27.seq (h28.seq h29)))))))))))
theorem f49_is : Try.prog.funcs[51]? = some Try.f51 := by kernel_rfl
theorem okMove {F : FOps} (hG : GamOk Try.prog (eM F).gam) : SumOk Try.prog 51 (S 25 (moveO F)) := by
  intro args cs r cs' h
  obtain ⟨b, a, rfl, rfl, rfl, rfl⟩ := S_sel h
  obtain ⟨g, rate, ms, u⟩ := a
  refine sum_runs f49_is (c := vC) (by unfold vC; rw [vC_is]; rfl) vN (by show 4 ≤ 130; omega) (by simp [row]) rfl rfl rfl (.inr rfl) (move_runs hG b (g, rate, ms, u)) (vR ..) rfl rfl (fun b' c hb => ?_) rfl rfl
  match b', hb with
  | 0, hb => cases hb; rfl
  | n + 1, hb => simp [row] at hb
end Go.Ab
/- So many rounds, one by one. -/
namespace Go.Ab
theorem below2 {p : Nat → Prop} (h0 : p 0) (h1 : p 1) : ∀ i, i < 2 → p i
  | 0, _ => h0
  | 1, _ => h1
  | n + 2, h => absurd h (by omega)
theorem below6 {p : Nat → Prop} (h0 : p 0) (h1 : p 1) (h2 : p 2) (h3 : p 3) (h4 : p 4) (h5 : p 5) : ∀ i, i < 6 → p i
  | 0, _ => h0
  | 1, _ => h1
  | 2, _ => h2
  | 3, _ => h3
  | 4, _ => h4
  | 5, _ => h5
  | n + 6, h => absurd h (by omega)
theorem below13 {p : Nat → Prop} (h0 : p 0) (h1 : p 1) (h2 : p 2) (h3 : p 3) (h4 : p 4) (h5 : p 5) (h6 : p 6) (h7 : p 7) (h8 : p 8) (h9 : p 9) (h10 : p 10) (h11 : p 11) (h12 : p 12) : ∀ i, i < 13 → p i
  | 0, _ => h0
  | 1, _ => h1
  | 2, _ => h2
  | 3, _ => h3
  | 4, _ => h4
  | 5, _ => h5
  | 6, _ => h6
  | 7, _ => h7
  | 8, _ => h8
  | 9, _ => h9
  | 10, _ => h10
  | 11, _ => h11
  | 12, _ => h12
  | n + 13, h => absurd h (by omega)
end Go.Ab
/- The document's means and products are the program's. -/
namespace Go.Ab
open Go Go.Proofs
theorem fadd_bad (x y : Int) : fadd true x y = (0, true) := rfl
theorem fmul_bad (x y : Int) : fmul true x y = (0, true) := rfl
theorem fpart_bad (x y z : Int) : fpart true x y z = (0, true) := rfl
theorem pmN_bad (u v : Nat → Int) : ∀ (n k : Nat) (a : Int), (pmN opsF u v k n (a, true)).2 = true
  | 0, _, _ => rfl
  | n + 1, k, _ => pmN_bad u v n (k + 1) 0
end Go.Ab
/- What is the same but for the order of its operations. -/
namespace Go.Ab
open Go Go.Proofs
/-- The same flow, and the same value where it is good. -/
def Same {α : Type} (x y : α × Bool) : Prop := x.2 = y.2 ∧ (x.2 = false → x = y)
theorem Same.of_bad {α : Type} {x y : α × Bool} (hx : x.2 = true) (hy : y.2 = true) : Same x y := ⟨hx.trans hy.symm, fun h => by rw [hx] at h; cases h⟩
theorem Same.trans {α : Type} {x y z : α × Bool} (h : Same x y) (k : Same y z) : Same x z := ⟨h.1.trans k.1, fun hx => (h.2 hx).trans (k.2 (h.1 ▸ hx))⟩
abbrev Bad {α ω : Type} (g : Bool → α → ω × Bool) : Prop := ∀ a, (g true a).2 = true
theorem Same.bind {α ω : Type} {x y : α × Bool} (h : Same x y) {K L : α × Bool → ω × Bool} (hK : ∀ a, (K (a, true)).2 = true) (hL : ∀ a, (L (a, true)).2 = true) (hs : ∀ a, Same (K (a, false)) (L (a, false))) : Same (K x) (L y) := by
  obtain ⟨a, f⟩ := x
  obtain ⟨c, e⟩ := y
  have h1 : f = e := h.1
  subst h1
  cases f with
  | true => exact .of_bad (hK a) (hL c)
  | false =>
    have h2 : (a, false) = (c, false) := h.2 rfl
    cases h2
    exact hs a
section
variable (vs : Bool → V3 × V3 × Unit → V3 × Bool) (part : Bool → Int → Int → Int → Int × Bool) (fr : RFun) (mu : QFun)
end
end Go.Ab
/- apply: trees of both packages, for each count. -/
namespace Go.Ab
open Go Go.Proofs
theorem apply85_1 (o : Ops) (b : Bool) (m : M6) (y : R6) : fnSum Try.prog { gam := gamN o } [] 20 31 [.ptr 0 0, .val (Cod.enc m), .val (Cod.enc y), .val (.int .i64 1)] (row 25 b) = applyT o 25 b m y 1 := by kernel_rfl
theorem apply85_2 (o : Ops) (b : Bool) (m : M6) (y : R6) : fnSum Try.prog { gam := gamN o } [] 20 31 [.ptr 0 0, .val (Cod.enc m), .val (Cod.enc y), .val (.int .i64 2)] (row 25 b) = applyT o 25 b m y 2 := by kernel_rfl
theorem apply85_3 (o : Ops) (b : Bool) (m : M6) (y : R6) : fnSum Try.prog { gam := gamN o } [] 20 31 [.ptr 0 0, .val (Cod.enc m), .val (Cod.enc y), .val (.int .i64 3)] (row 25 b) = applyT o 25 b m y 3 := by kernel_rfl
theorem apply85_4 (o : Ops) (b : Bool) (m : M6) (y : R6) : fnSum Try.prog { gam := gamN o } [] 20 31 [.ptr 0 0, .val (Cod.enc m), .val (Cod.enc y), .val (.int .i64 4)] (row 25 b) = applyT o 25 b m y 4 := by kernel_rfl
theorem apply85_5 (o : Ops) (b : Bool) (m : M6) (y : R6) : fnSum Try.prog { gam := gamN o } [] 20 31 [.ptr 0 0, .val (Cod.enc m), .val (Cod.enc y), .val (.int .i64 5)] (row 25 b) = applyT o 25 b m y 5 := by kernel_rfl
theorem apply85_6 (o : Ops) (b : Bool) (m : M6) (y : R6) : fnSum Try.prog { gam := gamN o } [] 20 31 [.ptr 0 0, .val (Cod.enc m), .val (Cod.enc y), .val (.int .i64 6)] (row 25 b) = applyT o 25 b m y 6 := by kernel_rfl
end Go.Ab
/- apply: the summaries of both packages. -/
namespace Go.Ab
open Go Go.Proofs
theorem apply85_bad (o : Ops) (b : Bool) (m : M6) (y : R6) (n : Int) : fnSum Try.prog { gam := gamN o } mute 20 31 [.ptr 0 0, .val (Cod.enc m), .val (Cod.enc y), .val (.int .i64 n)] (row 25 b) = badT 25 (Cod.enc R6.zero) b n := by kernel_rfl
theorem ok85 : SumOk Try.prog 31 (S 25 (matApply opsF)) := by
  refine S_join fun (a : M6 × R6 × Int × Unit) => ?_
  cases hn : okN a.2.2.1 with
  | false =>
    refine ⟨fun p => !okN p.2.2.1, by simp only [hn, Bool.not_false], ?_⟩
    refine Sc_okH (E := { gam := gamN opsF }) gamN_ok (hB := mute) muteFit 20 fun b p hp => ?_
    obtain ⟨m, y, n, _⟩ := p
    have hp' : okN n = false := by simpa using hp
    refine ((apply85_bad opsF b m y n).trans (badT_eq hp')).trans ?_
    show _ = some (AV.val (Cod.enc (byN R6.zero n b _).1), row 25 (byN R6.zero n b _).2)
    rw [byN_no _ _ _ hp']
  | true =>
    rcases okN_cases hn with h | h | h | h | h | h
    · refine ⟨fun p => decide (p.2.2.1 = 1), by simp only [h, decide_true], ?_⟩
      refine Sc_ok (E := { gam := gamN opsF }) gamN_ok 20 fun b p hp => ?_
      obtain ⟨m, y, n, _⟩ := p
      have hp' : n = 1 := by simpa using hp
      subst hp'
      refine (apply85_1 opsF b m y).trans ?_
      unfold applyT
      rw [doneRT_eq]
      exact endT_eq 25 R6.zero b (doneR (appN opsF m.at y.at 1 b 1))
    · refine ⟨fun p => decide (p.2.2.1 = 2), by simp only [h, decide_true], ?_⟩
      refine Sc_ok (E := { gam := gamN opsF }) gamN_ok 20 fun b p hp => ?_
      obtain ⟨m, y, n, _⟩ := p
      have hp' : n = 2 := by simpa using hp
      subst hp'
      refine (apply85_2 opsF b m y).trans ?_
      unfold applyT
      rw [doneRT_eq]
      exact endT_eq 25 R6.zero b (doneR (appN opsF m.at y.at 2 b 2))
    · refine ⟨fun p => decide (p.2.2.1 = 3), by simp only [h, decide_true], ?_⟩
      refine Sc_ok (E := { gam := gamN opsF }) gamN_ok 20 fun b p hp => ?_
      obtain ⟨m, y, n, _⟩ := p
      have hp' : n = 3 := by simpa using hp
      subst hp'
      refine (apply85_3 opsF b m y).trans ?_
      unfold applyT
      rw [doneRT_eq]
      exact endT_eq 25 R6.zero b (doneR (appN opsF m.at y.at 3 b 3))
    · refine ⟨fun p => decide (p.2.2.1 = 4), by simp only [h, decide_true], ?_⟩
      refine Sc_ok (E := { gam := gamN opsF }) gamN_ok 20 fun b p hp => ?_
      obtain ⟨m, y, n, _⟩ := p
      have hp' : n = 4 := by simpa using hp
      subst hp'
      refine (apply85_4 opsF b m y).trans ?_
      unfold applyT
      rw [doneRT_eq]
      exact endT_eq 25 R6.zero b (doneR (appN opsF m.at y.at 4 b 4))
    · refine ⟨fun p => decide (p.2.2.1 = 5), by simp only [h, decide_true], ?_⟩
      refine Sc_ok (E := { gam := gamN opsF }) gamN_ok 20 fun b p hp => ?_
      obtain ⟨m, y, n, _⟩ := p
      have hp' : n = 5 := by simpa using hp
      subst hp'
      refine (apply85_5 opsF b m y).trans ?_
      unfold applyT
      rw [doneRT_eq]
      exact endT_eq 25 R6.zero b (doneR (appN opsF m.at y.at 5 b 5))
    · refine ⟨fun p => decide (p.2.2.1 = 6), by simp only [h, decide_true], ?_⟩
      refine Sc_ok (E := { gam := gamN opsF }) gamN_ok 20 fun b p hp => ?_
      obtain ⟨m, y, n, _⟩ := p
      have hp' : n = 6 := by simpa using hp
      subst hp'
      refine (apply85_6 opsF b m y).trans ?_
      unfold applyT
      rw [doneRT_eq]
      exact endT_eq 25 R6.zero b (doneR (appN opsF m.at y.at 6 b 6))
end Go.Ab
/- solve: trees of both packages, for each count. -/
namespace Go.Ab
open Go Go.Proofs
theorem solve76_1 (o : Ops) (b : Bool) (m : M6) (y : R6) : fnSum Try.prog { gam := gamN o } [] 20 27 [.ptr 0 0, .val (Cod.enc m), .val (Cod.enc y), .val (.int .i64 1)] (row 25 b) = solveT o 25 b m y 1 := by kernel_rfl
theorem solve76_2 (o : Ops) (b : Bool) (m : M6) (y : R6) : fnSum Try.prog { gam := gamN o } [] 20 27 [.ptr 0 0, .val (Cod.enc m), .val (Cod.enc y), .val (.int .i64 2)] (row 25 b) = solveT o 25 b m y 2 := by kernel_rfl
theorem solve76_3 (o : Ops) (b : Bool) (m : M6) (y : R6) : fnSum Try.prog { gam := gamN o } [] 20 27 [.ptr 0 0, .val (Cod.enc m), .val (Cod.enc y), .val (.int .i64 3)] (row 25 b) = solveT o 25 b m y 3 := by kernel_rfl
theorem solve76_4 (o : Ops) (b : Bool) (m : M6) (y : R6) : fnSum Try.prog { gam := gamN o } [] 20 27 [.ptr 0 0, .val (Cod.enc m), .val (Cod.enc y), .val (.int .i64 4)] (row 25 b) = solveT o 25 b m y 4 := by kernel_rfl
theorem solve76_5 (o : Ops) (b : Bool) (m : M6) (y : R6) : fnSum Try.prog { gam := gamN o } [] 20 27 [.ptr 0 0, .val (Cod.enc m), .val (Cod.enc y), .val (.int .i64 5)] (row 25 b) = solveT o 25 b m y 5 := by kernel_rfl
theorem solve76_6 (o : Ops) (b : Bool) (m : M6) (y : R6) : fnSum Try.prog { gam := gamN o } [] 20 27 [.ptr 0 0, .val (Cod.enc m), .val (Cod.enc y), .val (.int .i64 6)] (row 25 b) = solveT o 25 b m y 6 := by kernel_rfl
end Go.Ab
/- solve: the summaries of both packages. -/
namespace Go.Ab
open Go Go.Proofs
theorem solve76_bad (o : Ops) (b : Bool) (m : M6) (y : R6) (n : Int) : fnSum Try.prog { gam := gamN o } mute 20 27 [.ptr 0 0, .val (Cod.enc m), .val (Cod.enc y), .val (.int .i64 n)] (row 25 b) = badT 25 (Cod.enc R6.zero) b n := by kernel_rfl
theorem ok76 : SumOk Try.prog 27 (S 25 (matSolve opsF)) := by
  refine S_join fun (a : M6 × R6 × Int × Unit) => ?_
  cases hn : okN a.2.2.1 with
  | false =>
    refine ⟨fun p => !okN p.2.2.1, by simp only [hn, Bool.not_false], ?_⟩
    refine Sc_okH (E := { gam := gamN opsF }) gamN_ok (hB := mute) muteFit 20 fun b p hp => ?_
    obtain ⟨m, y, n, _⟩ := p
    have hp' : okN n = false := by simpa using hp
    refine ((solve76_bad opsF b m y n).trans (badT_eq hp')).trans ?_
    show _ = some (AV.val (Cod.enc (byN R6.zero n b _).1), row 25 (byN R6.zero n b _).2)
    rw [byN_no _ _ _ hp']
  | true =>
    rcases okN_cases hn with h | h | h | h | h | h
    · refine ⟨fun p => decide (p.2.2.1 = 1), by simp only [h, decide_true], ?_⟩
      refine Sc_ok (E := { gam := gamN opsF }) gamN_ok 20 fun b p hp => ?_
      obtain ⟨m, y, n, _⟩ := p
      have hp' : n = 1 := by simpa using hp
      subst hp'
      refine (solve76_1 opsF b m y).trans ?_
      unfold solveT
      rw [doneRT_eq]
      exact endT_eq 25 R6.zero b (doneR (solve0 opsF b m y 1))
    · refine ⟨fun p => decide (p.2.2.1 = 2), by simp only [h, decide_true], ?_⟩
      refine Sc_ok (E := { gam := gamN opsF }) gamN_ok 20 fun b p hp => ?_
      obtain ⟨m, y, n, _⟩ := p
      have hp' : n = 2 := by simpa using hp
      subst hp'
      refine (solve76_2 opsF b m y).trans ?_
      unfold solveT
      rw [doneRT_eq]
      exact endT_eq 25 R6.zero b (doneR (solve0 opsF b m y 2))
    · refine ⟨fun p => decide (p.2.2.1 = 3), by simp only [h, decide_true], ?_⟩
      refine Sc_ok (E := { gam := gamN opsF }) gamN_ok 20 fun b p hp => ?_
      obtain ⟨m, y, n, _⟩ := p
      have hp' : n = 3 := by simpa using hp
      subst hp'
      refine (solve76_3 opsF b m y).trans ?_
      unfold solveT
      rw [doneRT_eq]
      exact endT_eq 25 R6.zero b (doneR (solve0 opsF b m y 3))
    · refine ⟨fun p => decide (p.2.2.1 = 4), by simp only [h, decide_true], ?_⟩
      refine Sc_ok (E := { gam := gamN opsF }) gamN_ok 20 fun b p hp => ?_
      obtain ⟨m, y, n, _⟩ := p
      have hp' : n = 4 := by simpa using hp
      subst hp'
      refine (solve76_4 opsF b m y).trans ?_
      unfold solveT
      rw [doneRT_eq]
      exact endT_eq 25 R6.zero b (doneR (solve0 opsF b m y 4))
    · refine ⟨fun p => decide (p.2.2.1 = 5), by simp only [h, decide_true], ?_⟩
      refine Sc_ok (E := { gam := gamN opsF }) gamN_ok 20 fun b p hp => ?_
      obtain ⟨m, y, n, _⟩ := p
      have hp' : n = 5 := by simpa using hp
      subst hp'
      refine (solve76_5 opsF b m y).trans ?_
      unfold solveT
      rw [doneRT_eq]
      exact endT_eq 25 R6.zero b (doneR (solve0 opsF b m y 5))
    · refine ⟨fun p => decide (p.2.2.1 = 6), by simp only [h, decide_true], ?_⟩
      refine Sc_ok (E := { gam := gamN opsF }) gamN_ok 20 fun b p hp => ?_
      obtain ⟨m, y, n, _⟩ := p
      have hp' : n = 6 := by simpa using hp
      subst hp'
      refine (solve76_6 opsF b m y).trans ?_
      unfold solveT
      rw [doneRT_eq]
      exact endT_eq 25 R6.zero b (doneR (solve0 opsF b m y 6))
end Go.Ab
/- The filter's functions with the numbers' own operations. -/
namespace Go.Ab
open Go Go.Proofs
def frF : RFun := fromRod opsF vopsF (qunit opsF)
def tuF : TFun := turnedO qmul frF
def ptF : Bool → Gs × Unit → X13 × Bool := fun b p => pointsJ opsF (matRootN opsF) jobsP b p.1
def stF : Bool → V4 × V3 × R6 × M6 × Unit → Two Gs Bool × Bool := settleO (vop fadd) (qunit opsF) tuF
def FP : FOps := { o := opsF, vs := vop fsub, tu := tuF, un := qunit opsF, mu := qmul, tr := toRod opsF, bk := qback, pt := ptF, cen := centerV opsF, pro := prodV opsF, ont := ontoV opsF, st := stF }
theorem okTurned : SumOk Try.prog 105 (S 25 tuF) := S_ok (E := { gam := [(41, S 25 qmul), (55, S 25 frF)] }) (.cons ok92 (.cons ok80 .nil)) 20 fun b a => turned54 qmul frF b a.1 a.2.1
theorem okSettle : SumOk Try.prog 110 (S 25 stF) := S_ok (E := { gam := [(90, S 25 (vop fadd)), (38, S 25 (qunit opsF)), (105, S 25 tuF), (104, S0 fun (p : R6 × Unit) => halvesV p.1)] }) (.cons ok50 (.cons ok72 (.cons okTurned (.cons okHalves .nil)))) 20 fun b a => by
  refine (settle66 (vop fadd) (qunit opsF) tuF b a.1 a.2.1 a.2.2.1 a.2.2.2.1).trans ?_
  unfold stF settleO
  dsimp only
  generalize settle0 (vop fadd) (qunit opsF) tuF b a.1 a.2.1 a.2.2.1 a.2.2.2.1 = r
  obtain ⟨r, f⟩ := r
  cases f <;> rfl
theorem gamFP : GamOk Try.prog (eM FP).gam := .cons ok52 (.cons okTurned (.cons ok72 (.cons ok92 (.cons ok82 (.cons ok91 (.cons ok107 (.cons (okCtr gamN_ok) (.cons (okPrd gamN_ok) (.cons (okOnt gamN_ok) (.cons okSettle (.cons okHalves (.cons okJoin (.cons ok116 (.cons ok115 .nil))))))))))))))
theorem okMoveF : SumOk Try.prog 51 (S 25 (moveO FP)) := okMove gamFP
end Go.Ab
/- The filter's Move and the document's are the same: facts of the pieces. -/
namespace Go.Ab
open Go Go.Proofs
theorem bad_va : Bad (vop fadd) := fun _ => rfl
theorem bad_mu : Bad qmul := fun _ => rfl
theorem bad_un : Bad (qunit opsF) := fun a => by
  show (qunitF opsF a.1 (qlen opsF true a.1).1 (bif decide ((qlen opsF true a.1).1 < 549755813888) then true else (qlen opsF true a.1).2)).2 = true
  have h : (qlen opsF true a.1).2 = true := rfl
  rw [h]
  cases decide ((qlen opsF true a.1).1 < 549755813888) <;> rfl
theorem bad_fr : Bad frF := fun a => by
  have h : (rodAt opsF vopsF true a.1).2 = true := rfl
  show (qunit opsF (rodAt opsF vopsF true a.1).2 _).2 = true
  rw [h]
  exact bad_un _
theorem bad_tu : Bad tuF := fun a => by
  show (qmul (frF true (a.1, ())).2 _).2 = true
  rw [bad_fr]
  exact bad_mu _
theorem Same.set {p q : V4 × Bool} (h : Same p q) (d : Mx) (i : Nat) : Same (setT d i p.1, p.2) (setT d i q.1, q.2) := ⟨h.1, fun hp => by rw [h.2 hp]⟩
end Go.Ab
/- The filter's awake: no turn, and no rate. -/
namespace Go.Ab
open Go Go.Proofs
def eqI4 (a b : V4) : Bool := a.w == b.w && (a.x == b.x && (a.y == b.y && (a.z == b.z && true)))
theorem aw20 (st : V4 × Unit → Gs) (mv : Bool → Gs × V3 × Int × Unit → Gs × Bool) (sp : Bool → Gs × Unit → Int × Bool) : fnSum Try.prog { gam := [(45, S0 st), (51, S 25 mv), (49, S 25 sp)] } [] 20 44 [] [] =
    bif eqI4 (mv false (st (⟨0, 0, 0, 1099511627776⟩, ()), ⟨0, 0, 0⟩, 1000, ())).1.q ⟨0, 0, 0, 1099511627776⟩ then bif decide ((mv false (st (⟨0, 0, 0, 1099511627776⟩, ()), ⟨0, 0, 0⟩, 1000, ())).1.p.a.a > (st (⟨0, 0, 0, 1099511627776⟩, ())).p.a.a) then
      bif !(mv false (st (⟨0, 0, 0, 1099511627776⟩, ()), ⟨0, 0, 0⟩, 1000, ())).2 then some (.val (.bool ((sp (mv false (st (⟨0, 0, 0, 1099511627776⟩, ()), ⟨0, 0, 0⟩, 1000, ())).2 (st (⟨0, 0, 0, 1099511627776⟩, ()), ())).1 == 51539607552)), []) else some (.val (.bool false), []) else some (.val (.bool false), []) else some (.val (.bool false), []) := by kernel_rfl
def awG : Gs := start ⟨0, 0, 0, 1099511627776⟩
def awX : X13 := ⟨⟨0, 0, 0, 0, 0, 0⟩, ⟨363629291340, 0, 0, 0, 0, 0⟩, ⟨0, 363629291340, 0, 0, 0, 0⟩, ⟨0, 0, 363629291340, 0, 0, 0⟩, ⟨0, 0, 0, 11363415354, 0, 0⟩, ⟨0, 0, 0, 0, 11363415354, 0⟩, ⟨0, 0, 0, 0, 0, 11363415354⟩, ⟨(-363629291340), 0, 0, 0, 0, 0⟩, ⟨0, (-363629291340), 0, 0, 0, 0⟩, ⟨0, 0, (-363629291340), 0, 0, 0⟩, ⟨0, 0, 0, (-11363415354), 0, 0⟩, ⟨0, 0, 0, 0, (-11363415354), 0⟩, ⟨0, 0, 0, 0, 0, (-11363415354)⟩⟩
def awT0 : V4 := ⟨0, 0, 0, 1099511627776⟩
def awT1 : V4 := ⟨180580210636, 0, 0, 1084581304994⟩
def awT2 : V4 := ⟨0, 180580210636, 0, 1084581304994⟩
def awT3 : V4 := ⟨0, 0, 180580210636, 1084581304994⟩
def awT4 : V4 := ⟨(-5681669748), 0, 0, 1099496947810⟩
def awT5 : V4 := ⟨0, (-5681669748), 0, 1099496947810⟩
def awT6 : V4 := ⟨0, 0, (-5681669748), 1099496947810⟩
def awT7 : V4 := ⟨(-180580210636), 0, 0, 1084581304994⟩
def awT8 : V4 := ⟨0, (-180580210636), 0, 1084581304994⟩
def awT9 : V4 := ⟨0, 0, (-180580210636), 1084581304994⟩
def awT10 : V4 := ⟨5681669748, 0, 0, 1099496947810⟩
def awT11 : V4 := ⟨0, 5681669748, 0, 1099496947810⟩
def awT12 : V4 := ⟨0, 0, 5681669748, 1099496947810⟩
def awR0 : R6 := ⟨0, 0, 0, 0, 0, 0⟩
def awR1 : R6 := ⟨363629291339, 0, 0, 0, 0, 0⟩
def awR2 : R6 := ⟨0, 363629291339, 0, 0, 0, 0⟩
def awR3 : R6 := ⟨0, 0, 363629291339, 0, 0, 0⟩
def awR4 : R6 := ⟨(-11363415354), 0, 0, 11363415354, 0, 0⟩
def awR5 : R6 := ⟨0, (-11363415354), 0, 0, 11363415354, 0⟩
def awR6 : R6 := ⟨0, 0, (-11363415354), 0, 0, 11363415354⟩
def awR7 : R6 := ⟨(-363629291339), 0, 0, 0, 0, 0⟩
def awR8 : R6 := ⟨0, (-363629291339), 0, 0, 0, 0⟩
def awR9 : R6 := ⟨0, 0, (-363629291339), 0, 0, 0⟩
def awR10 : R6 := ⟨11363415354, 0, 0, (-11363415354), 0, 0⟩
def awR11 : R6 := ⟨0, 11363415354, 0, 0, (-11363415354), 0⟩
def awR12 : R6 := ⟨0, 0, 11363415354, 0, 0, (-11363415354)⟩
def awQ : V4 := ⟨0, 0, 0, 1099511627776⟩
def awD : X13 := ⟨⟨0, 0, 0, 0, 0, 0⟩, ⟨363629291339, 0, 0, 0, 0, 0⟩, ⟨0, 363629291339, 0, 0, 0, 0⟩, ⟨0, 0, 363629291339, 0, 0, 0⟩, ⟨(-11363415354), 0, 0, 11363415354, 0, 0⟩, ⟨0, (-11363415354), 0, 0, 11363415354, 0⟩, ⟨0, 0, (-11363415354), 0, 0, 11363415354⟩, ⟨(-363629291339), 0, 0, 0, 0, 0⟩, ⟨0, (-363629291339), 0, 0, 0, 0⟩, ⟨0, 0, (-363629291339), 0, 0, 0⟩, ⟨11363415354, 0, 0, (-11363415354), 0, 0⟩, ⟨0, 11363415354, 0, 0, (-11363415354), 0⟩, ⟨0, 0, 11363415354, 0, 0, (-11363415354)⟩⟩
def awM : R6 := ⟨0, 0, 0, 0, 0, 0⟩
def awP : M6 := ⟨⟨17196646400, 0, 0, (-16777216), 0, 0⟩, ⟨0, 17196646400, 0, 0, (-16777216), 0⟩, ⟨0, 0, 17196646400, 0, 0, (-16777216)⟩, ⟨(-16777216), 0, 0, 16777216, 0, 0⟩, ⟨0, (-16777216), 0, 0, 16777216, 0⟩, ⟨0, 0, (-16777216), 0, 0, 16777216⟩⟩
def awN : M6 := ⟨⟨17196711936, 0, 0, (-16777216), 0, 0⟩, ⟨0, 17196711936, 0, 0, (-16777216), 0⟩, ⟨0, 0, 17196711936, 0, 0, (-16777216)⟩, ⟨(-16777216), 0, 0, 16778240, 0, 0⟩, ⟨0, (-16777216), 0, 0, 16778240, 0⟩, ⟨0, 0, (-16777216), 0, 0, 16778240⟩⟩
def awH : Gs := ⟨⟨0, 0, 0, 1099511627776⟩, ⟨0, 0, 0⟩, ⟨⟨17196711936, 0, 0, (-16777216), 0, 0⟩, ⟨0, 17196711936, 0, 0, (-16777216), 0⟩, ⟨0, 0, 17196711936, 0, 0, (-16777216)⟩, ⟨(-16777216), 0, 0, 16778240, 0, 0⟩, ⟨0, (-16777216), 0, 0, 16778240, 0⟩, ⟨0, 0, (-16777216), 0, 0, 16778240⟩⟩⟩
def awZ : Mx := (setT (setT (setT (setT (setT (setT (setT (setT (setT (setT (setT (setT (setT mx0 0 awT0) 1 awT1) 2 awT2) 3 awT3) 4 awT4) 5 awT5) 6 awT6) 7 awT7) 8 awT8) 9 awT9) 10 awT10) 11 awT11) 12 awT12)
def awY : Mx := (setX (setX (setX (setX (setX (setX (setX (setX (setX (setX (setX (setX (setX awX.at 0 awR0) 1 awR1) 2 awR2) 3 awR3) 4 awR4) 5 awR5) 6 awR6) 7 awR7) 8 awR8) 9 awR9) 10 awR10) 11 awR11) 12 awR12)
theorem aw_pt : FP.pt (moveB 1000 false) (awG, ()) = (awX, false) := by kernel_rfl
theorem aw_vs : FP.vs false ((⟨0, 0, 0⟩ : V3), awG.bias, ()) = (V3.zero, false) := by kernel_rfl
theorem aw_z0 (T : Mx) : mvF1 FP awG.q V3.zero 1000 awX 0 (T, false) = (setT T 0 awT0, false) := by
  have h : mv1 FP awG.q V3.zero 1000 (awX.row 0) false = (awT0, false) := by kernel_rfl
  unfold mvF1
  rw [h]
theorem aw_y0 (T : Mx) : mvF2 FP awQ awX awZ 0 (T, false) = (setX T 0 awR0, false) := by
  have h : mv2 FP awQ (v4of (awZ 0)) (awX.row 0) false = (awR0, false) := by kernel_rfl
  unfold mvF2
  rw [h]
theorem aw_z1 (T : Mx) : mvF1 FP awG.q V3.zero 1000 awX 1 (T, false) = (setT T 1 awT1, false) := by
  have h : mv1 FP awG.q V3.zero 1000 (awX.row 1) false = (awT1, false) := by kernel_rfl
  unfold mvF1
  rw [h]
theorem aw_y1 (T : Mx) : mvF2 FP awQ awX awZ 1 (T, false) = (setX T 1 awR1, false) := by
  have h : mv2 FP awQ (v4of (awZ 1)) (awX.row 1) false = (awR1, false) := by kernel_rfl
  unfold mvF2
  rw [h]
theorem aw_z2 (T : Mx) : mvF1 FP awG.q V3.zero 1000 awX 2 (T, false) = (setT T 2 awT2, false) := by
  have h : mv1 FP awG.q V3.zero 1000 (awX.row 2) false = (awT2, false) := by kernel_rfl
  unfold mvF1
  rw [h]
theorem aw_y2 (T : Mx) : mvF2 FP awQ awX awZ 2 (T, false) = (setX T 2 awR2, false) := by
  have h : mv2 FP awQ (v4of (awZ 2)) (awX.row 2) false = (awR2, false) := by kernel_rfl
  unfold mvF2
  rw [h]
theorem aw_z3 (T : Mx) : mvF1 FP awG.q V3.zero 1000 awX 3 (T, false) = (setT T 3 awT3, false) := by
  have h : mv1 FP awG.q V3.zero 1000 (awX.row 3) false = (awT3, false) := by kernel_rfl
  unfold mvF1
  rw [h]
theorem aw_y3 (T : Mx) : mvF2 FP awQ awX awZ 3 (T, false) = (setX T 3 awR3, false) := by
  have h : mv2 FP awQ (v4of (awZ 3)) (awX.row 3) false = (awR3, false) := by kernel_rfl
  unfold mvF2
  rw [h]
theorem aw_z4 (T : Mx) : mvF1 FP awG.q V3.zero 1000 awX 4 (T, false) = (setT T 4 awT4, false) := by
  have h : mv1 FP awG.q V3.zero 1000 (awX.row 4) false = (awT4, false) := by kernel_rfl
  unfold mvF1
  rw [h]
theorem aw_y4 (T : Mx) : mvF2 FP awQ awX awZ 4 (T, false) = (setX T 4 awR4, false) := by
  have h : mv2 FP awQ (v4of (awZ 4)) (awX.row 4) false = (awR4, false) := by kernel_rfl
  unfold mvF2
  rw [h]
theorem aw_z5 (T : Mx) : mvF1 FP awG.q V3.zero 1000 awX 5 (T, false) = (setT T 5 awT5, false) := by
  have h : mv1 FP awG.q V3.zero 1000 (awX.row 5) false = (awT5, false) := by kernel_rfl
  unfold mvF1
  rw [h]
theorem aw_y5 (T : Mx) : mvF2 FP awQ awX awZ 5 (T, false) = (setX T 5 awR5, false) := by
  have h : mv2 FP awQ (v4of (awZ 5)) (awX.row 5) false = (awR5, false) := by kernel_rfl
  unfold mvF2
  rw [h]
theorem aw_z6 (T : Mx) : mvF1 FP awG.q V3.zero 1000 awX 6 (T, false) = (setT T 6 awT6, false) := by
  have h : mv1 FP awG.q V3.zero 1000 (awX.row 6) false = (awT6, false) := by kernel_rfl
  unfold mvF1
  rw [h]
theorem aw_y6 (T : Mx) : mvF2 FP awQ awX awZ 6 (T, false) = (setX T 6 awR6, false) := by
  have h : mv2 FP awQ (v4of (awZ 6)) (awX.row 6) false = (awR6, false) := by kernel_rfl
  unfold mvF2
  rw [h]
theorem aw_z7 (T : Mx) : mvF1 FP awG.q V3.zero 1000 awX 7 (T, false) = (setT T 7 awT7, false) := by
  have h : mv1 FP awG.q V3.zero 1000 (awX.row 7) false = (awT7, false) := by kernel_rfl
  unfold mvF1
  rw [h]
theorem aw_y7 (T : Mx) : mvF2 FP awQ awX awZ 7 (T, false) = (setX T 7 awR7, false) := by
  have h : mv2 FP awQ (v4of (awZ 7)) (awX.row 7) false = (awR7, false) := by kernel_rfl
  unfold mvF2
  rw [h]
theorem aw_z8 (T : Mx) : mvF1 FP awG.q V3.zero 1000 awX 8 (T, false) = (setT T 8 awT8, false) := by
  have h : mv1 FP awG.q V3.zero 1000 (awX.row 8) false = (awT8, false) := by kernel_rfl
  unfold mvF1
  rw [h]
theorem aw_y8 (T : Mx) : mvF2 FP awQ awX awZ 8 (T, false) = (setX T 8 awR8, false) := by
  have h : mv2 FP awQ (v4of (awZ 8)) (awX.row 8) false = (awR8, false) := by kernel_rfl
  unfold mvF2
  rw [h]
theorem aw_z9 (T : Mx) : mvF1 FP awG.q V3.zero 1000 awX 9 (T, false) = (setT T 9 awT9, false) := by
  have h : mv1 FP awG.q V3.zero 1000 (awX.row 9) false = (awT9, false) := by kernel_rfl
  unfold mvF1
  rw [h]
theorem aw_y9 (T : Mx) : mvF2 FP awQ awX awZ 9 (T, false) = (setX T 9 awR9, false) := by
  have h : mv2 FP awQ (v4of (awZ 9)) (awX.row 9) false = (awR9, false) := by kernel_rfl
  unfold mvF2
  rw [h]
theorem aw_z10 (T : Mx) : mvF1 FP awG.q V3.zero 1000 awX 10 (T, false) = (setT T 10 awT10, false) := by
  have h : mv1 FP awG.q V3.zero 1000 (awX.row 10) false = (awT10, false) := by kernel_rfl
  unfold mvF1
  rw [h]
theorem aw_y10 (T : Mx) : mvF2 FP awQ awX awZ 10 (T, false) = (setX T 10 awR10, false) := by
  have h : mv2 FP awQ (v4of (awZ 10)) (awX.row 10) false = (awR10, false) := by kernel_rfl
  unfold mvF2
  rw [h]
theorem aw_z11 (T : Mx) : mvF1 FP awG.q V3.zero 1000 awX 11 (T, false) = (setT T 11 awT11, false) := by
  have h : mv1 FP awG.q V3.zero 1000 (awX.row 11) false = (awT11, false) := by kernel_rfl
  unfold mvF1
  rw [h]
theorem aw_y11 (T : Mx) : mvF2 FP awQ awX awZ 11 (T, false) = (setX T 11 awR11, false) := by
  have h : mv2 FP awQ (v4of (awZ 11)) (awX.row 11) false = (awR11, false) := by kernel_rfl
  unfold mvF2
  rw [h]
theorem aw_z12 (T : Mx) : mvF1 FP awG.q V3.zero 1000 awX 12 (T, false) = (setT T 12 awT12, false) := by
  have h : mv1 FP awG.q V3.zero 1000 (awX.row 12) false = (awT12, false) := by kernel_rfl
  unfold mvF1
  rw [h]
theorem aw_y12 (T : Mx) : mvF2 FP awQ awX awZ 12 (T, false) = (setX T 12 awR12, false) := by
  have h : mv2 FP awQ (v4of (awZ 12)) (awX.row 12) false = (awR12, false) := by kernel_rfl
  unfold mvF2
  rw [h]
theorem aw_z : iterF (mvF1 FP awG.q V3.zero 1000 awX) 0 13 (mx0, false) = (awZ, false) := by
  simp only [iterF, Nat.zero_add, Nat.reduceAdd, aw_z0, aw_z1, aw_z2, aw_z3, aw_z4, aw_z5, aw_z6, aw_z7, aw_z8, aw_z9, aw_z10, aw_z11, aw_z12]
  rfl
theorem aw_y : iterF (mvF2 FP awQ awX awZ) 0 13 (awX.at, false) = (awY, false) := by
  simp only [iterF, Nat.zero_add, Nat.reduceAdd, aw_y0, aw_y1, aw_y2, aw_y3, aw_y4, aw_y5, aw_y6, aw_y7, aw_y8, aw_y9, aw_y10, aw_y11, aw_y12]
  rfl
theorem aw_un : FP.un false (v4of (awZ 0), ()) = (awQ, false) := by kernel_rfl
theorem aw_cen : FP.cen false (x13of awY) = (⟨awD, awM⟩, false) := by kernel_rfl
theorem aw_pro : FP.pro false awD awD = (awP, false) := by kernel_rfl
theorem aw_mv3 : mv3 FP 1000 awP false = (awN, false) := by kernel_rfl
theorem aw_st : FP.st false (awQ, awG.bias, awM, awN, ()) = (⟨awH, true⟩, false) := by kernel_rfl
theorem aw_move : moveO FP false (awG, ⟨0, 0, 0⟩, 1000, ()) = (awH, false) := by
  unfold moveO
  dsimp only
  rw [aw_pt]
  dsimp only
  rw [aw_vs]
  dsimp only
  rw [aw_z]
  dsimp only
  rw [aw_un]
  dsimp only
  rw [aw_y]
  dsimp only
  rw [aw_cen]
  dsimp only
  rw [aw_pro]
  dsimp only
  rw [aw_mv3]
  dsimp only
  rw [aw_st]
theorem aw_spread : (spread opsF false awG).1 = 51539607552 := by kernel_rfl
theorem aw_gen {st : V4 × Unit → Gs} {mv : Bool → Gs × V3 × Int × Unit → Gs × Bool} {sp : Bool → Gs × Unit → Int × Bool} {g h : Gs} (hg : st (⟨0, 0, 0, 1099511627776⟩, ()) = g) (hm : mv false (g, ⟨0, 0, 0⟩, 1000, ()) = (h, false)) (hq : eqI4 h.q ⟨0, 0, 0, 1099511627776⟩ = true)
    (hp : decide (h.p.a.a > g.p.a.a) = true) (hs : (sp false (g, ())).1 = 51539607552) : fnSum Try.prog { gam := [(45, S0 st), (51, S 25 mv), (49, S 25 sp)] } [] 20 44 [] [] = some (.val (.bool true), []) := by
  rw [aw20, hg, hm]
  dsimp only
  rw [hq, hp, hs]
  rfl
def startV (p : V4 × Unit) : Gs := start p.1
def spreadV (b : Bool) (p : Gs × Unit) : Int × Bool := spread opsF b p.1
def moveV : Bool → Gs × V3 × Int × Unit → Gs × Bool := moveO FP
theorem okStart : SumOk Try.prog 45 (S0 startV) := ok105
theorem okSpread : SumOk Try.prog 49 (S 25 spreadV) := ok109
theorem okMoveV : SumOk Try.prog 51 (S 25 moveV) := okMoveF
theorem okAwake : SumOk Try.prog 44 (S0 fun (_ : Unit) => true) := S0_ok (E := { gam := [(45, S0 startV), (51, S 25 moveV), (49, S 25 spreadV)] }) (.cons okStart (.cons okMoveV (.cons okSpread .nil))) 20 fun a => by
  have e := aw_gen (st := startV) (mv := moveV) (sp := spreadV) (g := awG) (h := awH) rfl aw_move rfl (by decide) aw_spread
  exact e
end Go.Ab
/- FilterMoves: what a guess is behind a move is the document's. -/
namespace Go.Ab
open Go Go.Proofs
def eqJ : List Int → List Int → Bool
  | a :: r, b :: t => a == b && eqJ r t
  | _, _ => true
theorem eqJ_self : ∀ l : List Int, eqJ l l = true
  | [] => rfl
  | a :: r => by simp [eqJ, eqJ_self r]
def R6.js (r : R6) : List Int := [r.a, r.b, r.c, r.d, r.e, r.f]
def gsJ (a b : Gs) : Bool := eqJ [a.q.w, a.q.x, a.q.y, a.q.z] [b.q.w, b.q.x, b.q.y, b.q.z] && (eqJ [a.bias.x, a.bias.y, a.bias.z] [b.bias.x, b.bias.y, b.bias.z] &&
  ((eqJ a.p.a.js b.p.a.js && (eqJ a.p.b.js b.p.b.js && (eqJ a.p.c.js b.p.c.js && (eqJ a.p.d.js b.p.d.js && (eqJ a.p.e.js b.p.e.js && (eqJ a.p.f.js b.p.f.js && true)))))) && true))
theorem gsJ_self (a : Gs) : gsJ a a = true := by simp [gsJ, eqJ_self]
end Go.Ab
/- What the numbers' operations answer: how far they are off. -/
namespace Go.Ab
open Go Go.Proofs
theorem ratio3_spec {a b c : Int} (hc : 0 < c) : 2 * (a * b) - c ≤ 2 * c * ratio3 a b c ∧ 2 * c * ratio3 a b c ≤ 2 * (a * b) + c := by
  have hcc : iabs c = c := iabs_of_nonneg (by omega)
  have hc0 : decide (c < 0) = false := by simp; omega
  unfold ratio3 neg3
  rw [hcc, hc0, Bool.xor_false]
  obtain ⟨h1, h2⟩ := rnd_spec (N := iabs a * iabs b) hc
  have hneg : ∀ r : Int, 2 * c * (0 - r) = - (2 * c * r) := fun r => by rw [Int.zero_sub, Int.mul_neg]
  have ia : ∀ x : Int, x < 0 → iabs x = -x := fun x h => by unfold iabs; rw [decide_eq_true h, cond_true, Int.zero_sub]
  by_cases ha : a < 0
  · by_cases hb : b < 0
    · rw [ia a ha, ia b hb, Int.neg_mul_neg] at h1 h2 ⊢
      rw [decide_eq_true ha, decide_eq_true hb]
      exact ⟨h1, h2⟩
    · rw [ia a ha, iabs_of_nonneg (a := b) (by omega), Int.neg_mul] at h1 h2 ⊢
      rw [decide_eq_true ha, decide_eq_false hb]
      show 2 * (a * b) - c ≤ 2 * c * (0 - rnd (-(a * b)) c) ∧ 2 * c * (0 - rnd (-(a * b)) c) ≤ 2 * (a * b) + c
      rw [hneg]
      omega
  · by_cases hb : b < 0
    · rw [iabs_of_nonneg (a := a) (by omega), ia b hb, Int.mul_neg] at h1 h2 ⊢
      rw [decide_eq_false ha, decide_eq_true hb]
      show 2 * (a * b) - c ≤ 2 * c * (0 - rnd (-(a * b)) c) ∧ 2 * c * (0 - rnd (-(a * b)) c) ≤ 2 * (a * b) + c
      rw [hneg]
      omega
    · rw [iabs_of_nonneg (a := a) (by omega), iabs_of_nonneg (a := b) (by omega)] at h1 h2 ⊢
      rw [decide_eq_false ha, decide_eq_false hb]
      exact ⟨h1, h2⟩
theorem fratio_val {a b c v : Int} (h : fratio false a b c = (v, false)) : v = ratio3 a b c ∧ c ≠ 0 := by
  unfold fratio at h
  generalize hc : (iabs c == 0 || decide (iabs a * iabs b / iabs c > 4611686018427387904) || decide (rnd (iabs a * iabs b) (iabs c) > 4611686018427387904)) = t at h
  cases t with
  | true => simp at h
  | false =>
    simp only [Bool.or_eq_false_iff, beq_eq_false_iff_ne] at hc
    rw [cond_false, Prod.mk.injEq] at h
    refine ⟨h.1.symm, fun h0 => hc.1.1 ?_⟩
    rw [h0]; rfl
theorem fdiv_of {a b v : Int} (h : fdiv false a b = (v, false)) : v = ratio3 a 1099511627776 b ∧ num a = true ∧ num b = true ∧ b ≠ 0 := by
  unfold fdiv at h
  cases hb : (false || !nums? [a, b]) with
  | true => rw [hb] at h; simp at h
  | false =>
    obtain ⟨_, ha, hb'⟩ := nums2 hb
    rw [hb, cond_false] at h
    exact ⟨(fratio_val h).1, ha, hb', (fratio_val h).2⟩
theorem fdiv_spec {a b v : Int} (hb : 0 < b) (h : fdiv false a b = (v, false)) : 2199023255552 * a - b ≤ 2 * b * v ∧ 2 * b * v ≤ 2199023255552 * a + b := by
  have := ratio3_spec (a := a) (b := 1099511627776) (c := b) hb
  rw [← (fdiv_of h).1] at this
  omega
end Go.Ab
/- Units of vectors: how long they are. -/
namespace Go.Ab
open Go Go.Proofs
theorem num_small {x : Int} (h1 : -4611686018427387904 ≤ x) (h2 : x ≤ 4611686018427387904) : num x = true := num_iff.2 ⟨h1, h2⟩
theorem le_of_mul2 {n x y : Int} (hn : 0 < n) (h : n * x ≤ n * y) : x ≤ y := Int.le_of_mul_le_mul_left h hn
/-- A part of a unit. -/
theorem div_unit {x n : Int} (hx : num x = true) (h0 : 0 < n) (hn : num n = true) (h : -n ≤ x ∧ x ≤ n) :
    ∃ v, fdiv false x n = (v, false) ∧ (2199023255552 * x - n ≤ 2 * n * v ∧ 2 * n * v ≤ 2199023255552 * x + n) ∧ -1099511627776 ≤ v ∧ v ≤ 1099511627776 := by
  have e := fdiv_small hx hn h0 h
  have s := fdiv_spec h0 e
  generalize ratio3 x 1099511627776 n = v at *
  refine ⟨v, e, s, ?_, ?_⟩
  · have : n * (-2199023255553) ≤ n * (2 * v) := by
      have : 2 * n * v = n * (2 * v) := by grind
      omega
    have := le_of_mul2 h0 this
    omega
  · have : n * (2 * v) ≤ n * 2199023255553 := by
      have : 2 * n * v = n * (2 * v) := by grind
      omega
    have := le_of_mul2 h0 this
    omega
end Go.Ab
/- Units of vectors: how long they are, in numbers. -/
namespace Go.Ab
open Go Go.Proofs
theorem mul_bound {x y K L : Int} (hx : -K ≤ x ∧ x ≤ K) (hy : -L ≤ y ∧ y ≤ L) : -(K * L) ≤ x * y ∧ x * y ≤ K * L := by
  have h1 : 0 ≤ (K - x) * (L + y) := Int.mul_nonneg (by omega) (by omega)
  have h2 : 0 ≤ (K + x) * (L - y) := Int.mul_nonneg (by omega) (by omega)
  have h3 : 0 ≤ (K - x) * (L - y) := Int.mul_nonneg (by omega) (by omega)
  have h4 : 0 ≤ (K + x) * (L + y) := Int.mul_nonneg (by omega) (by omega)
  constructor <;> grind
end Go.Ab
/- Turns: how far they are off. -/
namespace Go.Ab
open Go Go.Proofs
/-- Parts up to K. -/
structure Up (K : Int) (v : V3) : Prop where
  x : -K ≤ v.x ∧ v.x ≤ K
  y : -K ≤ v.y ∧ v.y ≤ K
  z : -K ≤ v.z ∧ v.z ≤ K
theorem Up.mono {K L : Int} {v : V3} (h : Up K v) (hk : K ≤ L) : Up L v := by
  have hx := h.x
  have hy := h.y
  have hz := h.z
  exact ⟨by omega, by omega, by omega⟩
end Go.Ab
/- Turns: how far they are off, together. -/
namespace Go.Ab
open Go Go.Proofs
/-- An attitude of length 1, but for little. -/
structure QU (u : V4) : Prop where
  v : Up 1099511627776 u.v
  s : -1099511627776 ≤ u.s ∧ u.s ≤ 1099511627776
  lo : 1208925819614629174706176 - 16492674416640 ≤ u.v.x * u.v.x + u.v.y * u.v.y + u.v.z * u.v.z + u.s * u.s
  hi : u.v.x * u.v.x + u.v.y * u.v.y + u.v.z * u.v.z + u.s * u.s ≤ 1208925819614629174706176 + 16492674416640
theorem quad_sq {a b c d r s t w n : Int} (hr : 2199023255552 * a - n ≤ 2 * n * r ∧ 2 * n * r ≤ 2199023255552 * a + n) (hs : 2199023255552 * b - n ≤ 2 * n * s ∧ 2 * n * s ≤ 2199023255552 * b + n)
    (ht : 2199023255552 * c - n ≤ 2 * n * t ∧ 2 * n * t ≤ 2199023255552 * c + n) (hw : 2199023255552 * d - n ≤ 2 * n * w ∧ 2 * n * w ≤ 2199023255552 * d + n)
    (pa : -n ≤ a ∧ a ≤ n) (pb : -n ≤ b ∧ b ≤ n) (pc : -n ≤ c ∧ c ≤ n) (pd : -n ≤ d ∧ d ≤ n) :
    n * n * (4 * (r * r + s * s + t * t + w * w)) ≤ 4835703278458516698824704 * (a * a + b * b + c * c + d * d) + n * n * 17592186044420 ∧
    4835703278458516698824704 * (a * a + b * b + c * c + d * d) - n * n * 17592186044416 ≤ n * n * (4 * (r * r + s * s + t * t + w * w)) := by
  obtain ⟨X, hX⟩ : ∃ X, X = 2 * n * r - 2199023255552 * a := ⟨_, rfl⟩
  obtain ⟨Y, hY⟩ : ∃ Y, Y = 2 * n * s - 2199023255552 * b := ⟨_, rfl⟩
  obtain ⟨Z, hZ⟩ : ∃ Z, Z = 2 * n * t - 2199023255552 * c := ⟨_, rfl⟩
  obtain ⟨V, hV⟩ : ∃ V, V = 2 * n * w - 2199023255552 * d := ⟨_, rfl⟩
  have bX : -n ≤ X ∧ X ≤ n := by omega
  have bY : -n ≤ Y ∧ Y ≤ n := by omega
  have bZ : -n ≤ Z ∧ Z ≤ n := by omega
  have bV : -n ≤ V ∧ V ≤ n := by omega
  have m1 := mul_bound pa bX
  have m2 := mul_bound pb bY
  have m3 := mul_bound pc bZ
  have m4 := mul_bound pd bV
  have q1 := mul_bound bX bX
  have q2 := mul_bound bY bY
  have q3 := mul_bound bZ bZ
  have q4 := mul_bound bV bV
  have s1 := sq_nonneg X
  have s2 := sq_nonneg Y
  have s3 := sq_nonneg Z
  have s4 := sq_nonneg V
  have one : ∀ x y e : Int, e = 2 * n * x - 2199023255552 * y → n * n * (4 * (x * x)) = 4835703278458516698824704 * (y * y) + 4398046511104 * (y * e) + e * e := by
    intro x y e he
    have h2 : 2 * n * x = e + 2199023255552 * y := by omega
    have h3 : n * n * (4 * (x * x)) = (2 * n * x) * (2 * n * x) := by grind
    rw [h3, h2]
    grind
  have e1 := one r a X hX
  have e2 := one s b Y hY
  have e3 := one t c Z hZ
  have e4 := one w d V hV
  have key : n * n * (4 * (r * r + s * s + t * t + w * w)) = n * n * (4 * (r * r)) + n * n * (4 * (s * s)) + n * n * (4 * (t * t)) + n * n * (4 * (w * w)) := by grind
  rw [key, e1, e2, e3, e4]
  generalize n * n = P at *
  omega
end Go.Ab
/- Attitudes of any four numbers: how long they are. -/
namespace Go.Ab
open Go Go.Proofs
theorem wrap_neg {r : Int} (h : -1099511627776 ≤ r ∧ r ≤ 1099511627776) : IntKind.i64.wrap (0 - r) = -r := by
  rw [wrap_i64_id (by omega) (by omega)]; omega
theorem qunit_ok {q u : V4} (h : qunit opsF false (q, ()) = (u, false)) : QU u := by
  unfold qunit at h
  rcases hn : qlen opsF false q with ⟨n, f⟩
  rw [hn] at h
  dsimp only at h
  have hbad : ∀ m, qunitF opsF q m true = (V4.zero, true) := fun m => rfl
  by_cases h0 : n < 549755813888
  · rw [decide_eq_true h0, cond_true, hbad] at h
    simp at h
  rw [decide_eq_false h0, cond_false] at h
  cases f with
  | true => rw [hbad] at h; simp at h
  | false =>
    obtain ⟨_, ⟨a1, a2, a3, a4⟩, p1, p2, p3, p4, n0, n1⟩ := qlen_ok hn
    have hnn : num n = true := num_iff.2 (by omega)
    obtain ⟨r, er, sr, br⟩ := div_unit a1 (by omega) hnn p1
    obtain ⟨s, es, ss, bs⟩ := div_unit a2 (by omega) hnn p2
    obtain ⟨t, et, st, bt⟩ := div_unit a3 (by omega) hnn p3
    obtain ⟨w, ew, sw, bw⟩ := div_unit a4 (by omega) hnn p4
    have e0 : qunit0 opsF q n false = (⟨r, s, t, w⟩, false) := by
      unfold qunit0
      simp only [opsF]
      rw [er]
      dsimp only
      rw [es]
      dsimp only
      rw [et]
      dsimp only
      rw [ew]
    unfold qunitF at h
    rw [e0] at h
    simp only [Prod.mk.injEq, and_true] at h
    -- the square of the length
    have hsum : 1208925819614629174706176 - 16492674416640 ≤ r * r + s * s + t * t + w * w ∧ r * r + s * s + t * t + w * w ≤ 1208925819614629174706176 + 16492674416640 := by
      have hn' : fnorm (fnorm false q.w q.x q.y).2 (fnorm false q.w q.x q.y).1 q.z 0 = (n, false) := hn
      rcases hm : fnorm false q.w q.x q.y with ⟨m, g⟩
      rw [hm] at hn'
      cases g with
      | true => rw [fnorm_still] at hn'; simp at hn'
      | false =>
        obtain ⟨m1, m2, _⟩ := fnorm_sq hm
        obtain ⟨k1, k2, _⟩ := fnorm_sq hn'
        obtain ⟨l1, _, _⟩ := fnorm_parts hn'
        obtain ⟨_, _, _, _, m0, _⟩ := fnorm_ok hm
        obtain ⟨c1, c2⟩ := quad_sq sr ss st sw p1 p2 p3 p4
        have e1 : (m + 1) * (m + 1) = m * m + (2 * m + 1) := by grind
        have e2 : (n + 1) * (n + 1) = n * n + (2 * n + 1) := by grind
        dsimp only at k1 k2
        rw [e1] at m2
        rw [e2] at k2
        have hp : 0 < n * n := Int.mul_pos (by omega) (by omega)
        have hq : 1208925819614629174706176 * (4 * n + 1) ≤ n * n * 10995116277760 := by
          have g1 : n * n * 10995116277760 = 1099511627776 * (2 * n) * (5 * n) := by grind
          have g2 : 1099511627776 * 1099511627776 * (5 * n) ≤ 1099511627776 * (2 * n) * (5 * n) := Int.mul_le_mul_of_nonneg_right (by omega) (by omega)
          omega
        generalize r * r + s * s + t * t + w * w = U at *
        have hU : 4 * U ≤ 4835703278458516698824704 + 61572651155460 := by
          refine le_of_mul2 hp ?_
          have : n * n * (4835703278458516698824704 + 61572651155460) = 4835703278458516698824704 * (n * n) + 4 * (n * n * 10995116277760) + n * n * 17592186044420 := by grind
          rw [this]
          omega
        have hL : 4835703278458516698824704 - 17592186044416 ≤ 4 * U := by
          refine le_of_mul2 hp ?_
          have : n * n * (4835703278458516698824704 - 17592186044416) = 4835703278458516698824704 * (n * n) - n * n * 17592186044416 := by grind
          rw [this]
          omega
        omega
    rw [← h]
    unfold plain
    dsimp only
    cases decide (w < 0) with
    | false => exact ⟨⟨br, bs, bt⟩, bw, hsum.1, hsum.2⟩
    | true =>
      have hneg : neg4 ⟨r, s, t, w⟩ = ⟨-r, -s, -t, -w⟩ := by
        unfold neg4
        dsimp only
        rw [wrap_neg br, wrap_neg bs, wrap_neg bt, wrap_neg bw]
      rw [cond_true, hneg]
      have g : ∀ x : Int, -x * -x = x * x := fun x => Int.neg_mul_neg x x
      refine ⟨⟨by show _ ≤ -r ∧ -r ≤ _; omega, by show _ ≤ -s ∧ -s ≤ _; omega, by show _ ≤ -t ∧ -t ≤ _; omega⟩, by show _ ≤ -w ∧ -w ≤ _; omega, ?_, ?_⟩
      · show _ ≤ -r * -r + -s * -s + -t * -t + -w * -w
        rw [g, g, g, g]; exact hsum.1
      · show -r * -r + -s * -s + -t * -t + -w * -w ≤ _
        rw [g, g, g, g]; exact hsum.2
end Go.Ab
/- What is moved is even: an attitude of length 1, and a P that is the same about its diagonal. -/
namespace Go.Ab
open Go Go.Proofs
theorem neg3_comm (a b c : Int) : neg3 a b c = neg3 b a c := by
  unfold neg3
  rw [Bool.xor_comm (decide (a < 0))]
theorem fratio_comm (f : Bool) (a b c : Int) : fratio f a b c = fratio f b a c := by
  unfold fratio
  rw [neg3_comm a b c, Int.mul_comm (iabs a)]
theorem nums_comm (a b : Int) : nums? [a, b] = nums? [b, a] := by
  unfold nums? nums? nums?
  rw [Bool.and_true, Bool.and_true, Bool.and_comm]
theorem fmul_comm (f : Bool) (a b : Int) : fmul f a b = fmul f b a := by
  unfold fmul
  rw [nums_comm, fratio_comm]
theorem pmN_comm (u v : Nat → Int) : ∀ (n k : Nat) (s : Int × Bool), pmN opsF u v k n s = pmN opsF v u k n s
  | 0, _, _ => rfl
  | n + 1, k, s => by
    show pmN opsF u v (k + 1) n (fadd (fmul s.2 (u k) (v k)).2 s.1 (fmul s.2 (u k) (v k)).1) = pmN opsF v u (k + 1) n (fadd (fmul s.2 (v k) (u k)).2 s.1 (fmul s.2 (v k) (u k)).1)
    rw [fmul_comm s.2 (u k), pmN_comm u v n]
theorem o_mul : opsF.mul = fmul := rfl
theorem o_add : opsF.add = fadd := rfl
theorem o_part : opsF.part = fpart := rfl
theorem pmO_is (b : Bool) (u v : Nat → Int) : pmO opsF b u v = fpart (pmN opsF u v 1 12 (fadd (fmul b (u 0) (v 0)).2 (fmul b (u 0) (v 0)).1 (fmul b (u 0) (v 0)).1)).2 (pmN opsF u v 1 12 (fadd (fmul b (u 0) (v 0)).2 (fmul b (u 0) (v 0)).1 (fmul b (u 0) (v 0)).1)).1 1 14 := by
  unfold pmO
  dsimp only
  rw [o_part, o_mul, o_add]
theorem pmO_comm (b : Bool) (u v : Nat → Int) : pmO opsF b u v = pmO opsF b v u := by
  rw [pmO_is, pmO_is, fmul_comm b (u 0), pmN_comm u v]
theorem pmO_bad (u v : Nat → Int) : (pmO opsF true u v).2 = true := by
  rw [pmO_is, fmul_bad, fadd_bad]
  have h := pmN_bad u v 12 1 0
  generalize pmN opsF u v 1 12 (0, true) = q at h ⊢
  obtain ⟨s, f⟩ := q
  have h : f = true := h
  subst h
  rw [fpart_bad]
/-- A row of products: what stands there in the end. -/
theorem row_entry (x y : Mx) (i : Nat) : ∀ (n j : Nat) (z : Mx × Bool), (iterF (prJ_F opsF x y i) j n z).2 = false → z.2 = false ∧ ∀ a b, (iterF (prJ_F opsF x y i) j n z).1 a b = if a = i ∧ j ≤ b ∧ b < j + n then (pmO opsF false (fun k => x k i) (fun k => y k b)).1 else z.1 a b
  | 0, j, z, h => ⟨h, fun a b => by rw [if_neg (by omega)]; rfl⟩
  | n + 1, j, z, h => by
    have hs : iterF (prJ_F opsF x y i) j (n + 1) z = iterF (prJ_F opsF x y i) (j + 1) n (prJ_F opsF x y i j z) := rfl
    rw [hs] at h ⊢
    obtain ⟨h1, h2⟩ := row_entry x y i n (j + 1) _ h
    have h3 : (pmO opsF z.2 (fun k => x k i) (fun k => y k j)).2 = false := h1
    have hz : z.2 = false := by
      cases hz : z.2 with
      | false => rfl
      | true => rw [hz, pmO_bad] at h3; cases h3
    refine ⟨hz, fun a b => ?_⟩
    rw [h2 a b]
    by_cases hb : a = i ∧ j + 1 ≤ b ∧ b < j + 1 + n
    · rw [if_pos hb, if_pos (by omega)]
    · rw [if_neg hb]
      have e : (prJ_F opsF x y i j z).1 a b = bif Nat.beq a i && Nat.beq b j then (pmO opsF z.2 (fun k => x k i) (fun k => y k j)).1 else z.1 a b := rfl
      rw [e]
      by_cases hab : a = i ∧ b = j
      · obtain ⟨rfl, rfl⟩ := hab
        rw [if_pos (by omega), hz]
        simp
      · rw [if_neg (by omega)]
        have : (Nat.beq a i && Nat.beq b j) = false := by
          cases hc : (Nat.beq a i && Nat.beq b j) with
          | false => rfl
          | true =>
            rw [Bool.and_eq_true] at hc
            exact absurd ⟨Nat.eq_of_beq_eq_true hc.1, Nat.eq_of_beq_eq_true hc.2⟩ hab
        rw [this]
        rfl
theorem prod_entry (x y : Mx) : ∀ (n i : Nat) (z : Mx × Bool), (iterF (prI_F opsF x y) i n z).2 = false → z.2 = false ∧ ∀ a b, b < 6 → (iterF (prI_F opsF x y) i n z).1 a b = if i ≤ a ∧ a < i + n then (pmO opsF false (fun k => x k a) (fun k => y k b)).1 else z.1 a b
  | 0, i, z, h => ⟨h, fun a b _ => by rw [if_neg (by omega)]; rfl⟩
  | n + 1, i, z, h => by
    have hs : iterF (prI_F opsF x y) i (n + 1) z = iterF (prI_F opsF x y) (i + 1) n (prI_F opsF x y i z) := rfl
    rw [hs] at h ⊢
    obtain ⟨h1, h2⟩ := prod_entry x y n (i + 1) _ h
    obtain ⟨h3, h4⟩ := row_entry x y i 6 0 z h1
    refine ⟨h3, fun a b hb => ?_⟩
    rw [h2 a b hb]
    by_cases ha : i + 1 ≤ a ∧ a < i + 1 + n
    · rw [if_pos ha, if_pos (by omega)]
    · rw [if_neg ha]
      have h5 := h4 a b
      have e : (prI_F opsF x y i z).1 a b = (iterF (prJ_F opsF x y i) 0 6 z).1 a b := rfl
      rw [e, h5]
      by_cases hai : a = i
      · subst hai
        rw [if_pos (by omega), if_pos (by omega)]
      · rw [if_neg (by omega), if_neg (by omega)]
/-- The same about its diagonal. -/
def SymX (m : Mx) : Prop := ∀ i j, i < 6 → j < 6 → m i j = m j i
theorem at_of (L : Mx) {i j : Nat} (hi : i < 6) (hj : j < 6) : (M6.of L).at i j = L i j := by
  match i, j, hi, hj with
  | 0, 0, _, _ | 0, 1, _, _ | 0, 2, _, _ | 0, 3, _, _ | 0, 4, _, _ | 0, 5, _, _ => rfl
  | 1, 0, _, _ | 1, 1, _, _ | 1, 2, _, _ | 1, 3, _, _ | 1, 4, _, _ | 1, 5, _, _ => rfl
  | 2, 0, _, _ | 2, 1, _, _ | 2, 2, _, _ | 2, 3, _, _ | 2, 4, _, _ | 2, 5, _, _ => rfl
  | 3, 0, _, _ | 3, 1, _, _ | 3, 2, _, _ | 3, 3, _, _ | 3, 4, _, _ | 3, 5, _, _ => rfl
  | 4, 0, _, _ | 4, 1, _, _ | 4, 2, _, _ | 4, 3, _, _ | 4, 4, _, _ | 4, 5, _, _ => rfl
  | 5, 0, _, _ | 5, 1, _, _ | 5, 2, _, _ | 5, 3, _, _ | 5, 4, _, _ | 5, 5, _, _ => rfl
theorem prodW_is (o : Ops) (b : Bool) (x y : X13) : prodV o b x y = (M6.of (iterF (prI_F o x.at y.at) 0 6 (mx0, b)).1, (iterF (prI_F o x.at y.at) 0 6 (mx0, b)).2) := rfl
theorem prodV_sym {b : Bool} {x : X13} (h : (prodV opsF b x x).2 = false) : b = false ∧ SymX (prodV opsF b x x).1.at := by
  rw [prodW_is] at h ⊢
  dsimp only at h
  obtain ⟨h1, h2⟩ := prod_entry x.at x.at 6 0 (mx0, b) h
  refine ⟨h1, fun i j hi hj => ?_⟩
  dsimp only
  rw [at_of _ hi hj, at_of _ hj hi, h2 i j hj, h2 j i hi, if_pos (by omega), if_pos (by omega), pmO_comm]
/-- Behind a diagonal's sums, all else is as it was. -/
theorem onto_off (b : Bool) (m : M6) (p q : Int) : (ontoV opsF b m p q).2 = false → SymX m.at → SymX (ontoV opsF b m p q).1.at := by
  intro _ h i j hi hj
  have key : ∀ a c, a < 6 → c < 6 → a ≠ c → (ontoV opsF b m p q).1.at a c = m.at a c := by
    intro a c ha hc hac
    refine (at_of _ ha hc).trans ?_
    unfold ontoO
    dsimp only [setM]
    match a, c, ha, hc, hac with
    | 0, 0, _, _, h | 1, 1, _, _, h | 2, 2, _, _, h | 3, 3, _, _, h | 4, 4, _, _, h | 5, 5, _, _, h => exact absurd rfl h
    | 0, 1, _, _, _ | 0, 2, _, _, _ | 0, 3, _, _, _ | 0, 4, _, _, _ | 0, 5, _, _, _ => rfl
    | 1, 0, _, _, _ | 1, 2, _, _, _ | 1, 3, _, _, _ | 1, 4, _, _, _ | 1, 5, _, _, _ => rfl
    | 2, 0, _, _, _ | 2, 1, _, _, _ | 2, 3, _, _, _ | 2, 4, _, _, _ | 2, 5, _, _, _ => rfl
    | 3, 0, _, _, _ | 3, 1, _, _, _ | 3, 2, _, _, _ | 3, 4, _, _, _ | 3, 5, _, _, _ => rfl
    | 4, 0, _, _, _ | 4, 1, _, _, _ | 4, 2, _, _, _ | 4, 3, _, _, _ | 4, 5, _, _, _ => rfl
    | 5, 0, _, _, _ | 5, 1, _, _, _ | 5, 2, _, _, _ | 5, 3, _, _, _ | 5, 4, _, _, _ => rfl
  by_cases e : i = j
  · rw [e]
  · rw [key i j hi hj e, key j i hj hi (fun h => e h.symm)]
    exact h i j hi hj
/-- How long an attitude is that was made 1 long. -/
theorem unit_norm {u : V4} (hu : QU u) : ∃ m n, fnorm false u.w u.x u.y = (m, false) ∧ fnorm false m u.z 0 = (n, false) ∧ -16 ≤ n - 1099511627776 ∧ n - 1099511627776 ≤ 16 := by
  have ux : (-1099511627776 ≤ u.w ∧ u.w ≤ 1099511627776) := hu.v.x
  have uy : (-1099511627776 ≤ u.x ∧ u.x ≤ 1099511627776) := hu.v.y
  have uz : (-1099511627776 ≤ u.y ∧ u.y ≤ 1099511627776) := hu.v.z
  have us : (-1099511627776 ≤ u.z ∧ u.z ≤ 1099511627776) := hu.s
  have hlo : 1208925819614629174706176 - 16492674416640 ≤ u.w * u.w + u.x * u.x + u.y * u.y + u.z * u.z := hu.lo
  have hhi : u.w * u.w + u.x * u.x + u.y * u.y + u.z * u.z ≤ 1208925819614629174706176 + 16492674416640 := hu.hi
  have s1 := sq_nonneg u.w
  have s2 := sq_nonneg u.x
  have s3 := sq_nonneg u.y
  have s4 := sq_nonneg u.z
  have e126 : (2 : Int) ^ 126 = 85070591730234615865843651857942052864 := by decide
  obtain ⟨m, hm⟩ : ∃ m, m = isq (u.w * u.w + u.x * u.x + u.y * u.y) := ⟨_, rfl⟩
  obtain ⟨i0, i1, i2, i3⟩ := isq_spec (W := u.w * u.w + u.x * u.x + u.y * u.y) (by omega) (by omega)
  rw [← hm] at i0 i1 i2 i3
  have hm8 : m ≤ 1099511627784 := by
    rcases Int.lt_or_le 1099511627784 m with h | h
    · have := Int.mul_le_mul (Int.le_of_lt h) (Int.le_of_lt h) (by omega) i0
      omega
    · exact h
  have h1 : fnorm false u.w u.x u.y = (m, false) := by
    unfold fnorm
    have hn : (false || !nums? [u.w, u.x, u.y]) = false := by
      simp only [nums?, num_small (x := u.w) (by omega) (by omega), num_small (x := u.x) (by omega) (by omega), num_small (x := u.y) (by omega) (by omega)]
      rfl
    rw [hn, cond_false, ← hm, decide_eq_false (by omega), cond_false]
  obtain ⟨n, hn⟩ : ∃ n, n = isq (m * m + u.z * u.z + 0 * 0) := ⟨_, rfl⟩
  have m2 := sq_nonneg m
  obtain ⟨j0, j1, j2, j3⟩ := isq_spec (W := m * m + u.z * u.z + 0 * 0) (by omega) (by omega)
  rw [← hn] at j0 j1 j2 j3
  have hn8 : n ≤ 1099511627784 := by
    rcases Int.lt_or_le 1099511627784 n with h | h
    · have := Int.mul_le_mul (Int.le_of_lt h) (Int.le_of_lt h) (by omega) j0
      omega
    · exact h
  have h2 : fnorm false m u.z 0 = (n, false) := by
    unfold fnorm
    have hq : (false || !nums? [m, u.z, 0]) = false := by
      simp only [nums?, num_small (x := m) (by omega) (by omega), num_small (x := u.z) (by omega) (by omega), num_small (x := 0) (by omega) (by omega)]
      rfl
    rw [hq, cond_false, ← hn, decide_eq_false (by omega), cond_false]
  have hnlo : 1099511627760 ≤ n := by
    rcases Int.lt_or_le n 1099511627760 with h | h
    · have h3 : (n + 1) * (n + 1) ≤ 1099511627760 * 1099511627760 := Int.mul_le_mul (by omega) (by omega) (by omega) (by omega)
      have h4 : (m + 1) * (m + 1) = m * m + 2 * m + 1 := by rw [Int.add_mul, Int.mul_add]; omega
      omega
    · exact h
  exact ⟨m, n, h1, h2, by omega, by omega⟩
end Go.Ab
/- Two directions: how far apart they are, three directions of two, the attitude of two pairs: trees. -/
namespace Go.Ab
open Go Go.Proofs
structure P2 where
  a : V3
  b : V3
instance : Cod P2 where
  enc m := .agg #[.int .i64 m.a.x, .int .i64 m.a.y, .int .i64 m.a.z, .int .i64 m.b.x, .int .i64 m.b.y, .int .i64 m.b.z]
  dec v := match v with | .agg ⟨[.int .i64 a, .int .i64 b, .int .i64 c, .int .i64 d, .int .i64 e, .int .i64 f]⟩ => some ⟨⟨a, b, c⟩, ⟨d, e, f⟩⟩ | _ => none
  law v a h := by split at h <;> simp_all; subst h; simp
def frame (v : VOps) (b : Bool) (p : P2 × Unit) : M9 × Bool :=
  let u := v.unit b (p.1.a, ())
  let w := v.unit u.2 (p.1.b, ())
  let c := v.cross w.2 (u.1, w.1, ())
  let n := v.unit c.2 (c.1, ())
  let x := v.cross n.2 (u.1, n.1, ())
  (⟨u.1, n.1, x.1⟩, x.2)
end Go.Ab
