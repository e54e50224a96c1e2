/- A part of the proofs: lemmas, no statement of their own; no condition. -/
import Derived.Test.YtccgjhdpiaglaaaGFjE
/- filter.Meet, by pieces. -/
namespace Go.Ab
open Go Go.Proofs
structure GOps where
  o : Ops
  vu : Bool → V3 × Unit → V3 × Bool
  tu : TFun
  qt : Bool → V4 × V3 × Unit → V3 × Bool
  pt : Bool → Gs × Unit → X13 × Bool
  cen : CFun
  pro : PFun
  ont : OFun
  rt : Bool → M6 × Int × Unit → M6 × Bool
  so : Bool → M6 × R6 × Int × Unit → R6 × Bool
  ap : Bool → M6 × R6 × Int × Unit → R6 × Bool
  st : Bool → V4 × V3 × R6 × M6 × Unit → Two Gs Bool × Bool
def gamMe (F : GOps) : Gam := [(21, S 25 F.vu), (105, S 25 F.tu), (35, S 25 F.qt), (47, S 25 F.pt), (107, ctrS F.cen), (108, prdS F.pro), (109, ontS F.ont), (81, S 25 F.rt), (27, S 25 F.so), (31, S 25 F.ap), (110, S 25 F.st), (104, S0 fun (p : R6 × Unit) => halvesV p.1), (106, S0 fun (p : V3 × V3 × Unit) => joinV p.1 p.2.1), (61, S 25 (op2 F.o.add)), (84, S 25 (op2 F.o.sub)), (62, S 25 (op2 F.o.mul)), (59, S 25 (op3 F.o.part))]
abbrev eE (F : GOps) : Env := { gam := gamMe F }
def P2.av (p : P2) : List AV := p.a.av ++ p.b.av
noncomputable def wT0 : Code := Try.f54.body.getD .skip
noncomputable def w0 : Code := (seqL wT0)
noncomputable def wT1 : Code := seqR wT0
noncomputable def w1 : Code := seqL (seqL wT1)
noncomputable def wA : Code := inB (inB (seqR (seqL wT1)))
noncomputable def wT2 : Code := seqR wT1
noncomputable def w6 : Code := (seqL wT2)
noncomputable def wT3 : Code := seqR wT2
noncomputable def w7 : Code := (seqL wT3)
noncomputable def wT4 : Code := seqR wT3
noncomputable def w8 : Code := seqL (seqL wT4)
noncomputable def wB : Code := inB (inB (seqR (seqL wT4)))
noncomputable def wT5 : Code := seqR wT4
noncomputable def w15 : Code := (seqL wT5)
noncomputable def wT6 : Code := seqR wT5
noncomputable def w16 : Code := (seqL wT6)
noncomputable def wT7 : Code := seqR wT6
noncomputable def w17 : Code := (seqL wT7)
noncomputable def wT8 : Code := seqR wT7
noncomputable def w18 : Code := (seqL wT8)
noncomputable def wT9 : Code := seqR wT8
noncomputable def w19 : Code := seqL (seqL wT9)
noncomputable def wD : Code := inB (inB (seqR (seqL wT9)))
noncomputable def wT10 : Code := seqR wT9
noncomputable def w24 : Code := (seqL wT10)
noncomputable def wT11 : Code := seqR wT10
noncomputable def w25 : Code := (seqL wT11)
noncomputable def wT12 : Code := seqR wT11
noncomputable def w26 : Code := seqL (seqL wT12)
noncomputable def wE : Code := inB (inB (seqR (seqL wT12)))
noncomputable def wT13 : Code := seqR wT12
noncomputable def w31 : Code := (seqL wT13)
noncomputable def wT14 : Code := seqR wT13
noncomputable def w33 : Code := (seqL wT14)
noncomputable def wT15 : Code := seqR wT14
noncomputable def w35 : Code := (seqL wT15)
noncomputable def wT16 : Code := seqR wT15
noncomputable def w36 : Code := seqL (seqL wT16)
noncomputable def wF : Code := inB (inB (seqR (seqL wT16)))
noncomputable def wT17 : Code := seqR wT16
noncomputable def w41 : Code := seqL (seqL wT17)
noncomputable def wG : Code := inB (inB (seqR (seqL wT17)))
noncomputable def wT18 : Code := seqR wT17
noncomputable def w56 : Code := seqL (seqL wT18)
noncomputable def wH : Code := inB (inB (seqR (seqL wT18)))
noncomputable def wT19 : Code := seqR wT18
noncomputable def w65 : Code := (seqL wT19)
noncomputable def wT20 : Code := seqR wT19
noncomputable def w66 : Code := (seqL wT20)
noncomputable def wT21 : Code := seqR wT20
noncomputable def w68 : Code := wT21
theorem wC_is : Try.f54.body = some (.seq w0 (.seq (.seq w1 (.block 0 (.loop wA))) (.seq w6 (.seq w7 (.seq (.seq w8 (.block 2 (.loop wB))) (.seq w15 (.seq w16 (.seq w17 (.seq w18 (.seq (.seq w19 (.block 4 (.loop wD))) (.seq w24 (.seq w25 (.seq (.seq w26 (.block 6 (.loop wE))) (.seq w31 (.seq w33 (.seq w35 (.seq (.seq w36 (.block 8 (.loop wF))) (.seq (.seq w41 (.block 10 (.loop wG))) (.seq (.seq w56 (.block 16 (.loop wH))) (.seq w65 (.seq w66 w68))))))))))))))))))))) := by kernel_rfl
noncomputable def wGa : Code := seqL wG
noncomputable def wGb : Code := seqL (seqR wG)
noncomputable def wGi : Code := inB (seqL (seqR (seqR wG)))
noncomputable def w43 : Code := seqL wGi
noncomputable def w44 : Code := seqL (seqR wGi)
noncomputable def wGL : Code := inB (inB (seqR (seqR wGi)))
noncomputable def w55 : Code := seqR (seqR (seqR wG))
theorem wG_is : wG = .seq wGa (.seq wGb (.seq (.block 11 (.seq w43 (.seq w44 (.block 12 (.loop wGL))))) w55)) := by kernel_rfl
theorem wN : Try.f54.ntmps = 248 := by kernel_rfl
abbrev nK : Nat := 4096 + 10 * 2 ^ 180
abbrev nL : Nat := 4096 + 11 * 2 ^ 180
abbrev nM : Nat := 4096 + 12 * 2 ^ 180
abbrev nN : Nat := 4096 + 13 * 2 ^ 180
abbrev nO : Nat := 4096 + 14 * 2 ^ 180
abbrev nP : Nat := 4096 + 15 * 2 ^ 180
def wS0 (g : Gs) (sky body : P2) (b : Bool) : St := gSt 248 [(0, .ptr 0 0), (5, .ptr nA 0), (6, .ptr nB 0), (7, .ptr nC 0), (8, .ptr nD 0)] [(0, .row 25 [.val (.bool b)]), (nA, .row 67 g.av), (nB, .row 58 sky.av), (nC, .row 58 body.av), (nD, .row 67 Gs.zero.av)] nE
def wSA (i : Int) (g : Gs) (sky body : P2) (b : Bool) : St := gSt 248 [(0, .ptr 0 0), (5, .ptr nA 0), (6, .ptr nB 0), (7, .ptr nC 0), (8, .ptr nD 0), (40, .val (.int .i64 i))] [(0, .row 25 [.val (.bool b)]), (nA, .row 67 g.av), (nB, .row 58 sky.av), (nC, .row 58 body.av), (nD, .row 67 Gs.zero.av)] nE
def wS6 (g : Gs) (sky body : P2) (x : X13) (b : Bool) : St := gSt 248 [(0, .ptr 0 0), (5, .ptr nA 0), (6, .ptr nB 0), (7, .ptr nC 0), (8, .ptr nD 0), (12, .ptr nE 0)] [(0, .row 25 [.val (.bool b)]), (nA, .row 67 g.av), (nB, .row 58 sky.av), (nC, .row 58 body.av), (nD, .row 67 Gs.zero.av), (nE, .row 111 x.av)] nF
def wS7 (g : Gs) (sky body : P2) (x : X13) (z : Mx) (b : Bool) : St := gSt 248 [(0, .ptr 0 0), (5, .ptr nA 0), (6, .ptr nB 0), (7, .ptr nC 0), (8, .ptr nD 0), (12, .ptr nE 0), (13, .ptr nF 0)] [(0, .row 25 [.val (.bool b)]), (nA, .row 67 g.av), (nB, .row 58 sky.av), (nC, .row 58 body.av), (nD, .row 67 Gs.zero.av), (nE, .row 111 x.av), (nF, .row 111 (cells13 z))] nG
def wSB (k : Int) (g : Gs) (sky body : P2) (x : X13) (z : Mx) (b : Bool) : St := gSt 248 [(0, .ptr 0 0), (5, .ptr nA 0), (6, .ptr nB 0), (7, .ptr nC 0), (8, .ptr nD 0), (12, .ptr nE 0), (13, .ptr nF 0), (61, .val (Cod.enc x)), (62, .val (.int .i64 k))] [(0, .row 25 [.val (.bool b)]), (nA, .row 67 g.av), (nB, .row 58 sky.av), (nC, .row 58 body.av), (nD, .row 67 Gs.zero.av), (nE, .row 111 x.av), (nF, .row 111 (cells13 z))] nG
def wS15 (g : Gs) (body : P2) (x z : X13) (m : R6) (b : Bool) : St := gSt 248 [(0, .ptr 0 0), (5, .ptr nA 0), (7, .ptr nC 0), (8, .ptr nD 0), (12, .ptr nE 0), (13, .ptr nF 0), (19, .ptr nG 0)] [(0, .row 25 [.val (.bool b)]), (nA, .row 67 g.av), (nC, .row 58 body.av), (nD, .row 67 Gs.zero.av), (nE, .row 111 x.av), (nF, .row 111 z.av), (nG, .row 45 m.av)] nH
def wS16 (g : Gs) (body : P2) (m : R6) (s c : M6) (b : Bool) : St := gSt 248 [(0, .ptr 0 0), (5, .ptr nA 0), (7, .ptr nC 0), (8, .ptr nD 0), (19, .ptr nG 0), (20, .ptr nH 0), (21, .ptr nI 0)] [(0, .row 25 [.val (.bool b)]), (nA, .row 67 g.av), (nC, .row 58 body.av), (nD, .row 67 Gs.zero.av), (nG, .row 45 m.av), (nH, .row 47 s.av), (nI, .row 47 c.av)] nJ
def wS18 (g : Gs) (m : R6) (s c : M6) (y : Nat → Int) (b : Bool) : St := gSt 248 [(0, .ptr 0 0), (5, .ptr nA 0), (8, .ptr nD 0), (19, .ptr nG 0), (20, .ptr nH 0), (21, .ptr nI 0), (22, .ptr nJ 0)] [(0, .row 25 [.val (.bool b)]), (nA, .row 67 g.av), (nD, .row 67 Gs.zero.av), (nG, .row 45 m.av), (nH, .row 47 s.av), (nI, .row 47 c.av), (nJ, .row 45 (ints 6 y))] nK
def wSD (i : Int) (g : Gs) (m : R6) (s c : M6) (y : Nat → Int) (b : Bool) : St := gSt 248 [(0, .ptr 0 0), (5, .ptr nA 0), (8, .ptr nD 0), (19, .ptr nG 0), (20, .ptr nH 0), (21, .ptr nI 0), (22, .ptr nJ 0), (103, .val (.int .i64 i))] [(0, .row 25 [.val (.bool b)]), (nA, .row 67 g.av), (nD, .row 67 Gs.zero.av), (nG, .row 45 m.av), (nH, .row 47 s.av), (nI, .row 47 c.av), (nJ, .row 45 (ints 6 y))] nK
def wS24 (g : Gs) (c : M6) (y : R6) (l : M6) (b : Bool) : St := gSt 248 [(0, .ptr 0 0), (5, .ptr nA 0), (8, .ptr nD 0), (21, .ptr nI 0), (22, .ptr nJ 0), (24, .ptr nK 0)] [(0, .row 25 [.val (.bool b)]), (nA, .row 67 g.av), (nD, .row 67 Gs.zero.av), (nI, .row 47 c.av), (nJ, .row 45 y.av), (nK, .row 47 l.av)] nL
def wS25 (g : Gs) (c : M6) (y : R6) (l : M6) (chi : Int) (b : Bool) : St := gSt 248 [(0, .ptr 0 0), (5, .ptr nA 0), (8, .ptr nD 0), (21, .ptr nI 0), (22, .ptr nJ 0), (24, .ptr nK 0), (25, .val (.int .i64 chi))] [(0, .row 25 [.val (.bool b)]), (nA, .row 67 g.av), (nD, .row 67 Gs.zero.av), (nI, .row 47 c.av), (nJ, .row 45 y.av), (nK, .row 47 l.av)] nL
def wSE (i : Int) (g : Gs) (c : M6) (y : R6) (l : M6) (u : R6) (chi : Int) (b : Bool) : St := gSt 248 [(0, .ptr 0 0), (5, .ptr nA 0), (8, .ptr nD 0), (21, .ptr nI 0), (22, .ptr nJ 0), (24, .ptr nK 0), (25, .val (.int .i64 chi)), (123, .val (Cod.enc u)), (124, .val (.int .i64 i))] [(0, .row 25 [.val (.bool b)]), (nA, .row 67 g.av), (nD, .row 67 Gs.zero.av), (nI, .row 47 c.av), (nJ, .row 45 y.av), (nK, .row 47 l.av)] nL
def wS35 (g : Gs) (c : M6) (y : R6) (l : M6) (chi : Int) (k T p : Mx) (b : Bool) : St := gSt 248 [(0, .ptr 0 0), (5, .ptr nA 0), (8, .ptr nD 0), (21, .ptr nI 0), (22, .ptr nJ 0), (24, .ptr nK 0), (25, .val (.int .i64 chi)), (28, .ptr nL 0), (29, .ptr nM 0), (30, .ptr nN 0)] [(0, .row 25 [.val (.bool b)]), (nA, .row 67 g.av), (nD, .row 67 Gs.zero.av), (nI, .row 47 c.av), (nJ, .row 45 y.av), (nK, .row 47 l.av), (nL, .row 47 (cells36 k)), (nM, .row 47 (cells36 T)), (nN, .row 47 (cells36 p))] nO
def wSF (i : Int) (g : Gs) (c : M6) (y : R6) (l : M6) (chi : Int) (k T p : Mx) (b : Bool) : St := gSt 248 [(0, .ptr 0 0), (5, .ptr nA 0), (8, .ptr nD 0), (21, .ptr nI 0), (22, .ptr nJ 0), (24, .ptr nK 0), (25, .val (.int .i64 chi)), (28, .ptr nL 0), (29, .ptr nM 0), (30, .ptr nN 0), (151, .val (.int .i64 i))] [(0, .row 25 [.val (.bool b)]), (nA, .row 67 g.av), (nD, .row 67 Gs.zero.av), (nI, .row 47 c.av), (nJ, .row 45 y.av), (nK, .row 47 l.av), (nL, .row 47 (cells36 k)), (nM, .row 47 (cells36 T)), (nN, .row 47 (cells36 p))] nO
def wSG (i : Int) (g : Gs) (c : M6) (y : R6) (l : M6) (chi : Int) (k T p : Mx) (b : Bool) : St := gSt 248 [(0, .ptr 0 0), (5, .ptr nA 0), (8, .ptr nD 0), (21, .ptr nI 0), (22, .ptr nJ 0), (24, .ptr nK 0), (25, .val (.int .i64 chi)), (28, .ptr nL 0), (29, .ptr nM 0), (30, .ptr nN 0), (163, .val (.int .i64 i))] [(0, .row 25 [.val (.bool b)]), (nA, .row 67 g.av), (nD, .row 67 Gs.zero.av), (nI, .row 47 c.av), (nJ, .row 45 y.av), (nK, .row 47 l.av), (nL, .row 47 (cells36 k)), (nM, .row 47 (cells36 T)), (nN, .row 47 (cells36 p))] nO
def wSg (i : Int) (g : Gs) (c : M6) (y : R6) (l : M6) (chi : Int) (k T p : Mx) (b : Bool) : St := gSt 248 [(0, .ptr 0 0), (5, .ptr nA 0), (8, .ptr nD 0), (21, .ptr nI 0), (22, .ptr nJ 0), (24, .ptr nK 0), (25, .val (.int .i64 chi)), (28, .ptr nL 0), (29, .ptr nM 0), (30, .ptr nN 0), (163, .val (.int .i64 i)), (164, .val (.bool true))] [(0, .row 25 [.val (.bool b)]), (nA, .row 67 g.av), (nD, .row 67 Gs.zero.av), (nI, .row 47 c.av), (nJ, .row 45 y.av), (nK, .row 47 l.av), (nL, .row 47 (cells36 k)), (nM, .row 47 (cells36 T)), (nN, .row 47 (cells36 p))] nO
def wSx (i : Int) (g : Gs) (c : M6) (y : R6) (l : M6) (chi : Int) (k T p : Mx) (b : Bool) : St := gSt 248 [(0, .ptr 0 0), (5, .ptr nA 0), (8, .ptr nD 0), (21, .ptr nI 0), (22, .ptr nJ 0), (24, .ptr nK 0), (25, .val (.int .i64 chi)), (28, .ptr nL 0), (29, .ptr nM 0), (30, .ptr nN 0), (32, .val (.int .i64 i)), (163, .val (.int .i64 i))] [(0, .row 25 [.val (.bool b)]), (nA, .row 67 g.av), (nD, .row 67 Gs.zero.av), (nI, .row 47 c.av), (nJ, .row 45 y.av), (nK, .row 47 l.av), (nL, .row 47 (cells36 k)), (nM, .row 47 (cells36 T)), (nN, .row 47 (cells36 p))] nO
def wSJ (i j : Int) (g : Gs) (c : M6) (y : R6) (l : M6) (chi : Int) (k T p : Mx) (b : Bool) : St := gSt 248 [(0, .ptr 0 0), (5, .ptr nA 0), (8, .ptr nD 0), (21, .ptr nI 0), (22, .ptr nJ 0), (24, .ptr nK 0), (25, .val (.int .i64 chi)), (28, .ptr nL 0), (29, .ptr nM 0), (30, .ptr nN 0), (32, .val (.int .i64 i)), (163, .val (.int .i64 i)), (166, .val (.int .i64 j))] [(0, .row 25 [.val (.bool b)]), (nA, .row 67 g.av), (nD, .row 67 Gs.zero.av), (nI, .row 47 c.av), (nJ, .row 45 y.av), (nK, .row 47 l.av), (nL, .row 47 (cells36 k)), (nM, .row 47 (cells36 T)), (nN, .row 47 (cells36 p))] nO
def wSH (i : Int) (g : Gs) (c : M6) (y : R6) (l : M6) (chi : Int) (k T p : Mx) (b : Bool) : St := gSt 248 [(0, .ptr 0 0), (5, .ptr nA 0), (8, .ptr nD 0), (21, .ptr nI 0), (22, .ptr nJ 0), (24, .ptr nK 0), (25, .val (.int .i64 chi)), (28, .ptr nL 0), (29, .ptr nM 0), (30, .ptr nN 0), (203, .val (.int .i64 i))] [(0, .row 25 [.val (.bool b)]), (nA, .row 67 g.av), (nD, .row 67 Gs.zero.av), (nI, .row 47 c.av), (nJ, .row 45 y.av), (nK, .row 47 l.av), (nL, .row 47 (cells36 k)), (nM, .row 47 (cells36 T)), (nN, .row 47 (cells36 p))] nO
def wS65 (chi : Int) (ok : Bool) (g : Gs) (b : Bool) : St := gSt 248 [(0, .ptr 0 0), (8, .ptr nD 0), (25, .val (.int .i64 chi)), (38, .ptr nO 0), (39, .val (.bool ok))] [(0, .row 25 [.val (.bool b)]), (nD, .row 67 Gs.zero.av), (nO, .row 67 g.av)] nP
def wR (g : Gs) (chi : Int) (ok : Bool) (b : Bool) : St := gSt 248 [(0, .ptr 0 0), (8, .ptr nD 0), (9, .val (.int .i64 chi)), (10, .val (.bool ok))] [(0, .row 25 [.val (.bool b)]), (nD, .row 67 g.av)] nL
def wR2 (g : Gs) (chi : Int) (ok : Bool) (b : Bool) : St := gSt 248 [(0, .ptr 0 0), (8, .ptr nD 0), (9, .val (.int .i64 chi)), (10, .val (.bool ok))] [(0, .row 25 [.val (.bool b)]), (nD, .row 67 g.av)] nP
def meA0 (F : GOps) (sky body : P2) (b : Bool) : (P2 × P2) × Bool :=
  let p := F.vu b (sky.a, ())
  let q := F.vu p.2 (body.a, ())
  ((⟨p.1, sky.b⟩, ⟨q.1, body.b⟩), q.2)
def meA1 (F : GOps) (sky body : P2) (b : Bool) : (P2 × P2) × Bool :=
  let p := F.vu b (sky.b, ())
  let q := F.vu p.2 (body.b, ())
  ((⟨sky.a, p.1⟩, ⟨body.a, q.1⟩), q.2)
def meB (F : GOps) (q : V4) (sky : P2) (r : R6) (b : Bool) : R6 × Bool :=
  let a := F.tu b ((halvesV r).a, q, ())
  let p := F.qt a.2 (a.1, sky.a, ())
  let e := F.qt p.2 (a.1, sky.b, ())
  (joinV p.1 e.1, e.2)
def meE (F : GOps) (chi p q : Int) (b : Bool) : Int × Bool :=
  let n := F.o.mul b p q
  F.o.add n.2 chi n.1
def meS (o : Ops) (u v : Nat → Int) : Nat → Nat → Int × Bool → Int × Bool
  | _, 0, s => s
  | a, n + 1, s => meS o u v (a + 1) n (let n := o.mul s.2 (u a) (v a); o.add n.2 s.1 n.1)
def meT (F : GOps) (P : Mx) (k c : Mx) (i j : Nat) (b : Bool) : Int × Bool :=
  let s := meS F.o (k i) (c j) 0 6 (0, b)
  F.o.sub s.2 (P i j) s.1
def meH (o : Ops) (T : Mx) (i : Nat) : Nat → Nat → Mx × Bool → Mx × Bool
  | _, 0, s => s
  | j, n + 1, s => meH o T i (j + 1) n (let a := o.add s.2 (T i j) (T j i); let h := o.part a.2 a.1 1 2; (setM s.1 i j h.1, h.2))
def meZ (F : GOps) (g : Gs) (y : R6) (k p : Mx) (b : Bool) : Two Gs Bool × Bool :=
  let a := F.ap b (M6.of k, y, 6, ())
  F.st a.2 (g.q, g.bias, a.1, M6.of p, ())
end Go.Ab
/- filter.Meet: its pieces run (G). -/
namespace Go.Ab
open Go Go.Proofs
section
variable (F : GOps) (b : Bool) (g g' : Gs) (sky body : P2) (x z : X13) (Z : Mx) (m y u : R6) (s c l : M6) (Y : Nat → Int) (chi : Int) (k T p : Mx) (ok : Bool) (i j : Int)
theorem wq0 : gRun Try.prog (eE F) 248 w0 (startS 248 [.ptr 0 0, .val (Cod.enc g), .val (Cod.enc sky), .val (Cod.enc body)] (row 25 b)) [0, nA, nB, nC, nD] [0, 5, 6, 7, 8] = some (.normal, wS0 g sky body b) := by kernel_rfl
theorem wq1 : gRun Try.prog (eE F) 248 w1 (wS0 g sky body b) [0, nA, nB, nC, nD] [0, 5, 6, 7, 8, 40] = some (.normal, wSA 0 g sky body b) := by kernel_rfl
theorem wqA_0 : gCut Try.prog (eE F) 248 wA (wSA 0 g sky body b) nE [0, nA, nB, nC, nD] [0, 5, 6, 7, 8, 40] = some (.normal, wSA 1 g (meA0 F sky body b).1.1 (meA0 F sky body b).1.2 (meA0 F sky body b).2) := by kernel_rfl
theorem wqA_1 : gCut Try.prog (eE F) 248 wA (wSA 1 g sky body b) nE [0, nA, nB, nC, nD] [0, 5, 6, 7, 8, 40] = some (.normal, wSA 2 g (meA1 F sky body b).1.1 (meA1 F sky body b).1.2 (meA1 F sky body b).2) := by kernel_rfl
theorem wqA_2 : gCut Try.prog (eE F) 248 wA (wSA 2 g sky body b) nE [0, nA, nB, nC, nD] [0, 5, 6, 7, 8] = some (.exit 0, wS0 g sky body b) := by kernel_rfl
theorem wq6 : gRun Try.prog (eE F) 248 w6 (wS0 g sky body b) [0, nA, nB, nC, nD, nE] [0, 5, 6, 7, 8, 12] = some (.normal, wS6 g sky body (F.pt b (g, ())).1 (F.pt b (g, ())).2) := by kernel_rfl
theorem wq7 : gRun Try.prog (eE F) 248 w7 (wS6 g sky body x b) [0, nA, nB, nC, nD, nE, nF] [0, 5, 6, 7, 8, 12, 13] = some (.normal, wS7 g sky body x mx0 b) := by kernel_rfl
theorem wq8 : gRun Try.prog (eE F) 248 w8 (wS7 g sky body x Z b) [0, nA, nB, nC, nD, nE, nF] [0, 5, 6, 7, 8, 12, 13, 61, 62] = some (.normal, wSB 0 g sky body x Z b) := by kernel_rfl
theorem wqB_0 : gCut Try.prog (eE F) 248 wB (wSB 0 g sky body x Z b) nG [0, nA, nB, nC, nD, nE, nF] [0, 5, 6, 7, 8, 12, 13, 61, 62] = some (.normal, wSB 1 g sky body x (setX Z 0 (meB F g.q sky (x.row 0) b).1) (meB F g.q sky (x.row 0) b).2) := by kernel_rfl
theorem wqB_1 : gCut Try.prog (eE F) 248 wB (wSB 1 g sky body x Z b) nG [0, nA, nB, nC, nD, nE, nF] [0, 5, 6, 7, 8, 12, 13, 61, 62] = some (.normal, wSB 2 g sky body x (setX Z 1 (meB F g.q sky (x.row 1) b).1) (meB F g.q sky (x.row 1) b).2) := by kernel_rfl
theorem wqB_2 : gCut Try.prog (eE F) 248 wB (wSB 2 g sky body x Z b) nG [0, nA, nB, nC, nD, nE, nF] [0, 5, 6, 7, 8, 12, 13, 61, 62] = some (.normal, wSB 3 g sky body x (setX Z 2 (meB F g.q sky (x.row 2) b).1) (meB F g.q sky (x.row 2) b).2) := by kernel_rfl
theorem wqB_3 : gCut Try.prog (eE F) 248 wB (wSB 3 g sky body x Z b) nG [0, nA, nB, nC, nD, nE, nF] [0, 5, 6, 7, 8, 12, 13, 61, 62] = some (.normal, wSB 4 g sky body x (setX Z 3 (meB F g.q sky (x.row 3) b).1) (meB F g.q sky (x.row 3) b).2) := by kernel_rfl
theorem wqB_4 : gCut Try.prog (eE F) 248 wB (wSB 4 g sky body x Z b) nG [0, nA, nB, nC, nD, nE, nF] [0, 5, 6, 7, 8, 12, 13, 61, 62] = some (.normal, wSB 5 g sky body x (setX Z 4 (meB F g.q sky (x.row 4) b).1) (meB F g.q sky (x.row 4) b).2) := by kernel_rfl
theorem wqB_5 : gCut Try.prog (eE F) 248 wB (wSB 5 g sky body x Z b) nG [0, nA, nB, nC, nD, nE, nF] [0, 5, 6, 7, 8, 12, 13, 61, 62] = some (.normal, wSB 6 g sky body x (setX Z 5 (meB F g.q sky (x.row 5) b).1) (meB F g.q sky (x.row 5) b).2) := by kernel_rfl
theorem wqB_6 : gCut Try.prog (eE F) 248 wB (wSB 6 g sky body x Z b) nG [0, nA, nB, nC, nD, nE, nF] [0, 5, 6, 7, 8, 12, 13, 61, 62] = some (.normal, wSB 7 g sky body x (setX Z 6 (meB F g.q sky (x.row 6) b).1) (meB F g.q sky (x.row 6) b).2) := by kernel_rfl
theorem wqB_7 : gCut Try.prog (eE F) 248 wB (wSB 7 g sky body x Z b) nG [0, nA, nB, nC, nD, nE, nF] [0, 5, 6, 7, 8, 12, 13, 61, 62] = some (.normal, wSB 8 g sky body x (setX Z 7 (meB F g.q sky (x.row 7) b).1) (meB F g.q sky (x.row 7) b).2) := by kernel_rfl
theorem wqB_8 : gCut Try.prog (eE F) 248 wB (wSB 8 g sky body x Z b) nG [0, nA, nB, nC, nD, nE, nF] [0, 5, 6, 7, 8, 12, 13, 61, 62] = some (.normal, wSB 9 g sky body x (setX Z 8 (meB F g.q sky (x.row 8) b).1) (meB F g.q sky (x.row 8) b).2) := by kernel_rfl
theorem wqB_9 : gCut Try.prog (eE F) 248 wB (wSB 9 g sky body x Z b) nG [0, nA, nB, nC, nD, nE, nF] [0, 5, 6, 7, 8, 12, 13, 61, 62] = some (.normal, wSB 10 g sky body x (setX Z 9 (meB F g.q sky (x.row 9) b).1) (meB F g.q sky (x.row 9) b).2) := by kernel_rfl
theorem wqB_10 : gCut Try.prog (eE F) 248 wB (wSB 10 g sky body x Z b) nG [0, nA, nB, nC, nD, nE, nF] [0, 5, 6, 7, 8, 12, 13, 61, 62] = some (.normal, wSB 11 g sky body x (setX Z 10 (meB F g.q sky (x.row 10) b).1) (meB F g.q sky (x.row 10) b).2) := by kernel_rfl
theorem wqB_11 : gCut Try.prog (eE F) 248 wB (wSB 11 g sky body x Z b) nG [0, nA, nB, nC, nD, nE, nF] [0, 5, 6, 7, 8, 12, 13, 61, 62] = some (.normal, wSB 12 g sky body x (setX Z 11 (meB F g.q sky (x.row 11) b).1) (meB F g.q sky (x.row 11) b).2) := by kernel_rfl
theorem wqB_12 : gCut Try.prog (eE F) 248 wB (wSB 12 g sky body x Z b) nG [0, nA, nB, nC, nD, nE, nF] [0, 5, 6, 7, 8, 12, 13, 61, 62] = some (.normal, wSB 13 g sky body x (setX Z 12 (meB F g.q sky (x.row 12) b).1) (meB F g.q sky (x.row 12) b).2) := by kernel_rfl
theorem wqB_13 : gCut Try.prog (eE F) 248 wB (wSB 13 g sky body x Z b) nG [0, nA, nB, nC, nD, nE, nF] [0, 5, 6, 7, 8, 12, 13] = some (.exit 2, wS7 g sky body x Z b) := by kernel_rfl
theorem wq15 : gRun Try.prog (eE F) 248 w15 (wS7 g sky body x Z b) [0, nA, nC, nD, nE, nF, nG] [0, 5, 7, 8, 12, 13, 19] = some (.normal, wS15 g body x (F.cen b (x13of Z)).1.x (F.cen b (x13of Z)).1.m (F.cen b (x13of Z)).2) := by kernel_rfl
theorem wq16 : gRun Try.prog (eE F) 248 w16 (wS15 g body x z m b) [0, nA, nC, nD, nG, nH, nI] [0, 5, 7, 8, 19, 20, 21] = some (.normal, wS16 g body m (F.pro b z z).1 (F.pro (F.pro b z z).2 x z).1 (F.pro (F.pro b z z).2 x z).2) := by kernel_rfl
theorem wq17 : gRun Try.prog (eE F) 248 w17 (wS16 g body m s c b) [0, nA, nC, nD, nG, nH, nI] [0, 5, 7, 8, 19, 20, 21] = some (.normal, wS16 g body m (F.ont b s 67108864 268435456).1 c (F.ont b s 67108864 268435456).2) := by kernel_rfl
theorem wq18 : gRun Try.prog (eE F) 248 w18 (wS16 g body m s c b) [0, nA, nD, nG, nH, nI, nJ] [0, 5, 8, 19, 20, 21, 22] = some (.normal, wS18 g m s c (joinV body.a body.b).at b) := by kernel_rfl
theorem wq19 : gRun Try.prog (eE F) 248 w19 (wS18 g m s c Y b) [0, nA, nD, nG, nH, nI, nJ] [0, 5, 8, 19, 20, 21, 22, 103] = some (.normal, wSD 0 g m s c Y b) := by kernel_rfl
theorem wqD_0 : gCut Try.prog (eE F) 248 wD (wSD 0 g m s c Y b) nK [0, nA, nD, nG, nH, nI, nJ] [0, 5, 8, 19, 20, 21, 22, 103] = some (.normal, wSD 1 g m s c (setR Y 0 (F.o.sub b (Y 0) (m.at 0)).1) (F.o.sub b (Y 0) (m.at 0)).2) := by kernel_rfl
theorem wqD_1 : gCut Try.prog (eE F) 248 wD (wSD 1 g m s c Y b) nK [0, nA, nD, nG, nH, nI, nJ] [0, 5, 8, 19, 20, 21, 22, 103] = some (.normal, wSD 2 g m s c (setR Y 1 (F.o.sub b (Y 1) (m.at 1)).1) (F.o.sub b (Y 1) (m.at 1)).2) := by kernel_rfl
theorem wqD_2 : gCut Try.prog (eE F) 248 wD (wSD 2 g m s c Y b) nK [0, nA, nD, nG, nH, nI, nJ] [0, 5, 8, 19, 20, 21, 22, 103] = some (.normal, wSD 3 g m s c (setR Y 2 (F.o.sub b (Y 2) (m.at 2)).1) (F.o.sub b (Y 2) (m.at 2)).2) := by kernel_rfl
theorem wqD_3 : gCut Try.prog (eE F) 248 wD (wSD 3 g m s c Y b) nK [0, nA, nD, nG, nH, nI, nJ] [0, 5, 8, 19, 20, 21, 22, 103] = some (.normal, wSD 4 g m s c (setR Y 3 (F.o.sub b (Y 3) (m.at 3)).1) (F.o.sub b (Y 3) (m.at 3)).2) := by kernel_rfl
theorem wqD_4 : gCut Try.prog (eE F) 248 wD (wSD 4 g m s c Y b) nK [0, nA, nD, nG, nH, nI, nJ] [0, 5, 8, 19, 20, 21, 22, 103] = some (.normal, wSD 5 g m s c (setR Y 4 (F.o.sub b (Y 4) (m.at 4)).1) (F.o.sub b (Y 4) (m.at 4)).2) := by kernel_rfl
theorem wqD_5 : gCut Try.prog (eE F) 248 wD (wSD 5 g m s c Y b) nK [0, nA, nD, nG, nH, nI, nJ] [0, 5, 8, 19, 20, 21, 22, 103] = some (.normal, wSD 6 g m s c (setR Y 5 (F.o.sub b (Y 5) (m.at 5)).1) (F.o.sub b (Y 5) (m.at 5)).2) := by kernel_rfl
theorem wqD_6 : gCut Try.prog (eE F) 248 wD (wSD 6 g m s c Y b) nK [0, nA, nD, nG, nH, nI, nJ] [0, 5, 8, 19, 20, 21, 22] = some (.exit 4, wS18 g m s c Y b) := by kernel_rfl
theorem wq24 : gRun Try.prog (eE F) 248 w24 (wS18 g m s c Y b) [0, nA, nD, nI, nJ, nK] [0, 5, 8, 21, 22, 24] = some (.normal, wS24 g c (R6.of Y) (F.rt b (s, 6, ())).1 (F.rt b (s, 6, ())).2) := by kernel_rfl
theorem wq25 : gRun Try.prog (eE F) 248 w25 (wS24 g c y l b) [0, nA, nD, nI, nJ, nK] [0, 5, 8, 21, 22, 24, 25] = some (.normal, wS25 g c y l 0 b) := by kernel_rfl
theorem wq26 : gRun Try.prog (eE F) 248 w26 (wS25 g c y l chi b) [0, nA, nD, nI, nJ, nK] [0, 5, 8, 21, 22, 24, 25, 123, 124] = some (.normal, wSE 0 g c y l (F.so b (l, y, 6, ())).1 chi (F.so b (l, y, 6, ())).2) := by kernel_rfl
theorem wqE_0 : gCut Try.prog (eE F) 248 wE (wSE 0 g c y l u chi b) nL [0, nA, nD, nI, nJ, nK] [0, 5, 8, 21, 22, 24, 25, 123, 124] = some (.normal, wSE 1 g c y l u (meE F chi (y.at 0) (u.at 0) b).1 (meE F chi (y.at 0) (u.at 0) b).2) := by kernel_rfl
theorem wqE_1 : gCut Try.prog (eE F) 248 wE (wSE 1 g c y l u chi b) nL [0, nA, nD, nI, nJ, nK] [0, 5, 8, 21, 22, 24, 25, 123, 124] = some (.normal, wSE 2 g c y l u (meE F chi (y.at 1) (u.at 1) b).1 (meE F chi (y.at 1) (u.at 1) b).2) := by kernel_rfl
theorem wqE_2 : gCut Try.prog (eE F) 248 wE (wSE 2 g c y l u chi b) nL [0, nA, nD, nI, nJ, nK] [0, 5, 8, 21, 22, 24, 25, 123, 124] = some (.normal, wSE 3 g c y l u (meE F chi (y.at 2) (u.at 2) b).1 (meE F chi (y.at 2) (u.at 2) b).2) := by kernel_rfl
theorem wqE_3 : gCut Try.prog (eE F) 248 wE (wSE 3 g c y l u chi b) nL [0, nA, nD, nI, nJ, nK] [0, 5, 8, 21, 22, 24, 25, 123, 124] = some (.normal, wSE 4 g c y l u (meE F chi (y.at 3) (u.at 3) b).1 (meE F chi (y.at 3) (u.at 3) b).2) := by kernel_rfl
theorem wqE_4 : gCut Try.prog (eE F) 248 wE (wSE 4 g c y l u chi b) nL [0, nA, nD, nI, nJ, nK] [0, 5, 8, 21, 22, 24, 25, 123, 124] = some (.normal, wSE 5 g c y l u (meE F chi (y.at 4) (u.at 4) b).1 (meE F chi (y.at 4) (u.at 4) b).2) := by kernel_rfl
theorem wqE_5 : gCut Try.prog (eE F) 248 wE (wSE 5 g c y l u chi b) nL [0, nA, nD, nI, nJ, nK] [0, 5, 8, 21, 22, 24, 25, 123, 124] = some (.normal, wSE 6 g c y l u (meE F chi (y.at 5) (u.at 5) b).1 (meE F chi (y.at 5) (u.at 5) b).2) := by kernel_rfl
theorem wqE_6 : gCut Try.prog (eE F) 248 wE (wSE 6 g c y l u chi b) nL [0, nA, nD, nI, nJ, nK] [0, 5, 8, 21, 22, 24, 25] = some (.exit 6, wS25 g c y l chi b) := by kernel_rfl
theorem wq31t : gRun Try.prog (eE F) 248 w31 (wS25 g c y l chi true) [0, nD] [0, 8, 9, 10] = some (.ret, wR Gs.zero 0 false true) := by kernel_rfl
theorem wq31f : gRun Try.prog (eE F) 248 w31 (wS25 g c y l chi false) [0, nA, nD, nI, nJ, nK] [0, 5, 8, 21, 22, 24, 25] = some (.normal, { wS25 g c y l chi false with lo := nL }) := by kernel_rfl
theorem wq33 : gRun Try.prog (eE F) 248 w33 (wS25 g c y l chi b) [0, nA, nD, nI, nJ, nK] [0, 5, 8, 9, 10, 21, 22, 24, 25] = bif decide (chi > 32985348833280) then some (.ret, gSt 248 [(0, .ptr 0 0), (8, .ptr nD 0), (9, .val (.int .i64 chi)), (10, .val (.bool false)), (5, .ptr nA 0), (21, .ptr nI 0), (22, .ptr nJ 0), (24, .ptr nK 0), (25, .val (.int .i64 chi))] [(0, .row 25 [.val (.bool b)]), (nA, .row 67 g.av), (nD, .row 67 g.av), (nI, .row 47 c.av), (nJ, .row 45 y.av), (nK, .row 47 l.av)] nL) else some (.normal, gSt 248 [(0, .ptr 0 0), (8, .ptr nD 0), (9, .any), (10, .any), (5, .ptr nA 0), (21, .ptr nI 0), (22, .ptr nJ 0), (24, .ptr nK 0), (25, .val (.int .i64 chi))] [(0, .row 25 [.val (.bool b)]), (nA, .row 67 g.av), (nD, .row 67 Gs.zero.av), (nI, .row 47 c.av), (nJ, .row 45 y.av), (nK, .row 47 l.av)] nL) := by kernel_rfl
theorem wRes : resA Try.prog (wR g chi ok b) Try.f54.results.toList = some [.val (Cod.enc g), .val (.int .i64 chi), .val (.bool ok)] := by kernel_rfl
theorem wRes2 : resA Try.prog (wR2 g chi ok b) Try.f54.results.toList = some [.val (Cod.enc g), .val (.int .i64 chi), .val (.bool ok)] := by kernel_rfl
theorem ok_wSA : okClean nE (wSA i g sky body b) = true := by kernel_rfl
theorem lo_wSA : (wSA i g sky body b).lo = nE := rfl
theorem ok_wS0 : okClean nE (wS0 g sky body b) = true := by kernel_rfl
theorem ok_wSB : okClean nG (wSB i g sky body x Z b) = true := by kernel_rfl
theorem lo_wSB : (wSB i g sky body x Z b).lo = nG := rfl
theorem ok_wS7 : okClean nG (wS7 g sky body x Z b) = true := by kernel_rfl
theorem ok_wSD : okClean nK (wSD i g m s c Y b) = true := by kernel_rfl
theorem lo_wSD : (wSD i g m s c Y b).lo = nK := rfl
theorem ok_wS18 : okClean nK (wS18 g m s c Y b) = true := by kernel_rfl
theorem ok_wSE : okClean nL (wSE i g c y l u chi b) = true := by kernel_rfl
theorem lo_wSE : (wSE i g c y l u chi b).lo = nL := rfl
theorem ok_wS25 : okClean nL (wS25 g c y l chi b) = true := by kernel_rfl
theorem ok_wSF : okClean nO (wSF i g c y l chi k T p b) = true := by kernel_rfl
theorem lo_wSF : (wSF i g c y l chi k T p b).lo = nO := rfl
theorem ok_wS35 : okClean nO (wS35 g c y l chi k T p b) = true := by kernel_rfl
theorem ok_wSG : okClean nO (wSG i g c y l chi k T p b) = true := by kernel_rfl
theorem lo_wSG : (wSG i g c y l chi k T p b).lo = nO := rfl
theorem ok_wSJ : okClean nO (wSJ i j g c y l chi k T p b) = true := by kernel_rfl
theorem lo_wSJ : (wSJ i j g c y l chi k T p b).lo = nO := rfl
theorem ok_wSH : okClean nO (wSH i g c y l chi k T p b) = true := by kernel_rfl
theorem lo_wSH : (wSH i g c y l chi k T p b).lo = nO := rfl
end
end Go.Ab
/- filter.Meet: its pieces run (H). -/
namespace Go.Ab
open Go Go.Proofs
section
variable (F : GOps) (b : Bool) (g g' : Gs) (sky body : P2) (x z : X13) (Z : Mx) (m y u : R6) (s c l : M6) (Y : Nat → Int) (chi : Int) (k T p : Mx) (ok : Bool) (i j : Int)
theorem wq35 : gRun Try.prog (eE F) 248 w35 (wS25 g c y l chi b) [0, nA, nD, nI, nJ, nK, nL, nM, nN] [0, 5, 8, 21, 22, 24, 25, 28, 29, 30] = some (.normal, wS35 g c y l chi mx0 mx0 mx0 b) := by kernel_rfl
theorem wq36 : gRun Try.prog (eE F) 248 w36 (wS35 g c y l chi k T p b) [0, nA, nD, nI, nJ, nK, nL, nM, nN] [0, 5, 8, 21, 22, 24, 25, 28, 29, 30, 151] = some (.normal, wSF 0 g c y l chi k T p b) := by kernel_rfl
theorem wqF_0 : gCut Try.prog (eE F) 248 wF (wSF 0 g c y l chi k T p b) nO [0, nA, nD, nI, nJ, nK, nL, nM, nN] [0, 5, 8, 21, 22, 24, 25, 28, 29, 30, 151] = some (.normal, wSF 1 g c y l chi (setX k 0 (F.so b (l, c.row 0, 6, ())).1) T p (F.so b (l, c.row 0, 6, ())).2) := by kernel_rfl
theorem wqF_1 : gCut Try.prog (eE F) 248 wF (wSF 1 g c y l chi k T p b) nO [0, nA, nD, nI, nJ, nK, nL, nM, nN] [0, 5, 8, 21, 22, 24, 25, 28, 29, 30, 151] = some (.normal, wSF 2 g c y l chi (setX k 1 (F.so b (l, c.row 1, 6, ())).1) T p (F.so b (l, c.row 1, 6, ())).2) := by kernel_rfl
theorem wqF_2 : gCut Try.prog (eE F) 248 wF (wSF 2 g c y l chi k T p b) nO [0, nA, nD, nI, nJ, nK, nL, nM, nN] [0, 5, 8, 21, 22, 24, 25, 28, 29, 30, 151] = some (.normal, wSF 3 g c y l chi (setX k 2 (F.so b (l, c.row 2, 6, ())).1) T p (F.so b (l, c.row 2, 6, ())).2) := by kernel_rfl
theorem wqF_3 : gCut Try.prog (eE F) 248 wF (wSF 3 g c y l chi k T p b) nO [0, nA, nD, nI, nJ, nK, nL, nM, nN] [0, 5, 8, 21, 22, 24, 25, 28, 29, 30, 151] = some (.normal, wSF 4 g c y l chi (setX k 3 (F.so b (l, c.row 3, 6, ())).1) T p (F.so b (l, c.row 3, 6, ())).2) := by kernel_rfl
theorem wqF_4 : gCut Try.prog (eE F) 248 wF (wSF 4 g c y l chi k T p b) nO [0, nA, nD, nI, nJ, nK, nL, nM, nN] [0, 5, 8, 21, 22, 24, 25, 28, 29, 30, 151] = some (.normal, wSF 5 g c y l chi (setX k 4 (F.so b (l, c.row 4, 6, ())).1) T p (F.so b (l, c.row 4, 6, ())).2) := by kernel_rfl
theorem wqF_5 : gCut Try.prog (eE F) 248 wF (wSF 5 g c y l chi k T p b) nO [0, nA, nD, nI, nJ, nK, nL, nM, nN] [0, 5, 8, 21, 22, 24, 25, 28, 29, 30, 151] = some (.normal, wSF 6 g c y l chi (setX k 5 (F.so b (l, c.row 5, 6, ())).1) T p (F.so b (l, c.row 5, 6, ())).2) := by kernel_rfl
theorem wqF_6 : gCut Try.prog (eE F) 248 wF (wSF 6 g c y l chi k T p b) nO [0, nA, nD, nI, nJ, nK, nL, nM, nN] [0, 5, 8, 21, 22, 24, 25, 28, 29, 30] = some (.exit 8, wS35 g c y l chi k T p b) := by kernel_rfl
theorem wq41 : gRun Try.prog (eE F) 248 w41 (wS35 g c y l chi k T p b) [0, nA, nD, nI, nJ, nK, nL, nM, nN] [0, 5, 8, 21, 22, 24, 25, 28, 29, 30, 163] = some (.normal, wSG 0 g c y l chi k T p b) := by kernel_rfl
theorem wqGa_0 : gRun Try.prog (eE F) 248 wGa (wSG 0 g c y l chi k T p b) [0, nA, nD, nI, nJ, nK, nL, nM, nN] [0, 5, 8, 21, 22, 24, 25, 28, 29, 30, 163, 164] = some (.normal, wSg 0 g c y l chi k T p b) := by kernel_rfl
theorem wqGb_0 : gRun Try.prog (eE F) 248 wGb (wSg 0 g c y l chi k T p b) [0, nA, nD, nI, nJ, nK, nL, nM, nN] [0, 5, 8, 21, 22, 24, 25, 28, 29, 30, 163] = some (.normal, wSG 0 g c y l chi k T p b) := by kernel_rfl
theorem wqGc_0 : gRun Try.prog (eE F) 248 w43 (wSG 0 g c y l chi k T p b) [0, nA, nD, nI, nJ, nK, nL, nM, nN] [0, 5, 8, 21, 22, 24, 25, 28, 29, 30, 32, 163] = some (.normal, wSx 0 g c y l chi k T p b) := by kernel_rfl
theorem wqGd_0 : gRun Try.prog (eE F) 248 w44 (wSx 0 g c y l chi k T p b) [0, nA, nD, nI, nJ, nK, nL, nM, nN] [0, 5, 8, 21, 22, 24, 25, 28, 29, 30, 32, 163, 166] = some (.normal, wSJ 0 0 g c y l chi k T p b) := by kernel_rfl
theorem wqGe_0 : gRun Try.prog (eE F) 248 w55 (wSG 0 g c y l chi k T p b) [0, nA, nD, nI, nJ, nK, nL, nM, nN] [0, 5, 8, 21, 22, 24, 25, 28, 29, 30, 163] = some (.normal, wSG 1 g c y l chi k T p b) := by kernel_rfl
theorem wqGa_1 : gRun Try.prog (eE F) 248 wGa (wSG 1 g c y l chi k T p b) [0, nA, nD, nI, nJ, nK, nL, nM, nN] [0, 5, 8, 21, 22, 24, 25, 28, 29, 30, 163, 164] = some (.normal, wSg 1 g c y l chi k T p b) := by kernel_rfl
theorem wqGb_1 : gRun Try.prog (eE F) 248 wGb (wSg 1 g c y l chi k T p b) [0, nA, nD, nI, nJ, nK, nL, nM, nN] [0, 5, 8, 21, 22, 24, 25, 28, 29, 30, 163] = some (.normal, wSG 1 g c y l chi k T p b) := by kernel_rfl
theorem wqGc_1 : gRun Try.prog (eE F) 248 w43 (wSG 1 g c y l chi k T p b) [0, nA, nD, nI, nJ, nK, nL, nM, nN] [0, 5, 8, 21, 22, 24, 25, 28, 29, 30, 32, 163] = some (.normal, wSx 1 g c y l chi k T p b) := by kernel_rfl
theorem wqGd_1 : gRun Try.prog (eE F) 248 w44 (wSx 1 g c y l chi k T p b) [0, nA, nD, nI, nJ, nK, nL, nM, nN] [0, 5, 8, 21, 22, 24, 25, 28, 29, 30, 32, 163, 166] = some (.normal, wSJ 1 0 g c y l chi k T p b) := by kernel_rfl
theorem wqGe_1 : gRun Try.prog (eE F) 248 w55 (wSG 1 g c y l chi k T p b) [0, nA, nD, nI, nJ, nK, nL, nM, nN] [0, 5, 8, 21, 22, 24, 25, 28, 29, 30, 163] = some (.normal, wSG 2 g c y l chi k T p b) := by kernel_rfl
theorem wqGa_2 : gRun Try.prog (eE F) 248 wGa (wSG 2 g c y l chi k T p b) [0, nA, nD, nI, nJ, nK, nL, nM, nN] [0, 5, 8, 21, 22, 24, 25, 28, 29, 30, 163, 164] = some (.normal, wSg 2 g c y l chi k T p b) := by kernel_rfl
theorem wqGb_2 : gRun Try.prog (eE F) 248 wGb (wSg 2 g c y l chi k T p b) [0, nA, nD, nI, nJ, nK, nL, nM, nN] [0, 5, 8, 21, 22, 24, 25, 28, 29, 30, 163] = some (.normal, wSG 2 g c y l chi k T p b) := by kernel_rfl
theorem wqGc_2 : gRun Try.prog (eE F) 248 w43 (wSG 2 g c y l chi k T p b) [0, nA, nD, nI, nJ, nK, nL, nM, nN] [0, 5, 8, 21, 22, 24, 25, 28, 29, 30, 32, 163] = some (.normal, wSx 2 g c y l chi k T p b) := by kernel_rfl
theorem wqGd_2 : gRun Try.prog (eE F) 248 w44 (wSx 2 g c y l chi k T p b) [0, nA, nD, nI, nJ, nK, nL, nM, nN] [0, 5, 8, 21, 22, 24, 25, 28, 29, 30, 32, 163, 166] = some (.normal, wSJ 2 0 g c y l chi k T p b) := by kernel_rfl
theorem wqGe_2 : gRun Try.prog (eE F) 248 w55 (wSG 2 g c y l chi k T p b) [0, nA, nD, nI, nJ, nK, nL, nM, nN] [0, 5, 8, 21, 22, 24, 25, 28, 29, 30, 163] = some (.normal, wSG 3 g c y l chi k T p b) := by kernel_rfl
theorem wqGa_3 : gRun Try.prog (eE F) 248 wGa (wSG 3 g c y l chi k T p b) [0, nA, nD, nI, nJ, nK, nL, nM, nN] [0, 5, 8, 21, 22, 24, 25, 28, 29, 30, 163, 164] = some (.normal, wSg 3 g c y l chi k T p b) := by kernel_rfl
theorem wqGb_3 : gRun Try.prog (eE F) 248 wGb (wSg 3 g c y l chi k T p b) [0, nA, nD, nI, nJ, nK, nL, nM, nN] [0, 5, 8, 21, 22, 24, 25, 28, 29, 30, 163] = some (.normal, wSG 3 g c y l chi k T p b) := by kernel_rfl
theorem wqGc_3 : gRun Try.prog (eE F) 248 w43 (wSG 3 g c y l chi k T p b) [0, nA, nD, nI, nJ, nK, nL, nM, nN] [0, 5, 8, 21, 22, 24, 25, 28, 29, 30, 32, 163] = some (.normal, wSx 3 g c y l chi k T p b) := by kernel_rfl
theorem wqGd_3 : gRun Try.prog (eE F) 248 w44 (wSx 3 g c y l chi k T p b) [0, nA, nD, nI, nJ, nK, nL, nM, nN] [0, 5, 8, 21, 22, 24, 25, 28, 29, 30, 32, 163, 166] = some (.normal, wSJ 3 0 g c y l chi k T p b) := by kernel_rfl
theorem wqGe_3 : gRun Try.prog (eE F) 248 w55 (wSG 3 g c y l chi k T p b) [0, nA, nD, nI, nJ, nK, nL, nM, nN] [0, 5, 8, 21, 22, 24, 25, 28, 29, 30, 163] = some (.normal, wSG 4 g c y l chi k T p b) := by kernel_rfl
theorem wqGa_4 : gRun Try.prog (eE F) 248 wGa (wSG 4 g c y l chi k T p b) [0, nA, nD, nI, nJ, nK, nL, nM, nN] [0, 5, 8, 21, 22, 24, 25, 28, 29, 30, 163, 164] = some (.normal, wSg 4 g c y l chi k T p b) := by kernel_rfl
theorem wqGb_4 : gRun Try.prog (eE F) 248 wGb (wSg 4 g c y l chi k T p b) [0, nA, nD, nI, nJ, nK, nL, nM, nN] [0, 5, 8, 21, 22, 24, 25, 28, 29, 30, 163] = some (.normal, wSG 4 g c y l chi k T p b) := by kernel_rfl
theorem wqGc_4 : gRun Try.prog (eE F) 248 w43 (wSG 4 g c y l chi k T p b) [0, nA, nD, nI, nJ, nK, nL, nM, nN] [0, 5, 8, 21, 22, 24, 25, 28, 29, 30, 32, 163] = some (.normal, wSx 4 g c y l chi k T p b) := by kernel_rfl
theorem wqGd_4 : gRun Try.prog (eE F) 248 w44 (wSx 4 g c y l chi k T p b) [0, nA, nD, nI, nJ, nK, nL, nM, nN] [0, 5, 8, 21, 22, 24, 25, 28, 29, 30, 32, 163, 166] = some (.normal, wSJ 4 0 g c y l chi k T p b) := by kernel_rfl
theorem wqGe_4 : gRun Try.prog (eE F) 248 w55 (wSG 4 g c y l chi k T p b) [0, nA, nD, nI, nJ, nK, nL, nM, nN] [0, 5, 8, 21, 22, 24, 25, 28, 29, 30, 163] = some (.normal, wSG 5 g c y l chi k T p b) := by kernel_rfl
theorem wqGa_5 : gRun Try.prog (eE F) 248 wGa (wSG 5 g c y l chi k T p b) [0, nA, nD, nI, nJ, nK, nL, nM, nN] [0, 5, 8, 21, 22, 24, 25, 28, 29, 30, 163, 164] = some (.normal, wSg 5 g c y l chi k T p b) := by kernel_rfl
theorem wqGb_5 : gRun Try.prog (eE F) 248 wGb (wSg 5 g c y l chi k T p b) [0, nA, nD, nI, nJ, nK, nL, nM, nN] [0, 5, 8, 21, 22, 24, 25, 28, 29, 30, 163] = some (.normal, wSG 5 g c y l chi k T p b) := by kernel_rfl
theorem wqGc_5 : gRun Try.prog (eE F) 248 w43 (wSG 5 g c y l chi k T p b) [0, nA, nD, nI, nJ, nK, nL, nM, nN] [0, 5, 8, 21, 22, 24, 25, 28, 29, 30, 32, 163] = some (.normal, wSx 5 g c y l chi k T p b) := by kernel_rfl
theorem wqGd_5 : gRun Try.prog (eE F) 248 w44 (wSx 5 g c y l chi k T p b) [0, nA, nD, nI, nJ, nK, nL, nM, nN] [0, 5, 8, 21, 22, 24, 25, 28, 29, 30, 32, 163, 166] = some (.normal, wSJ 5 0 g c y l chi k T p b) := by kernel_rfl
theorem wqGe_5 : gRun Try.prog (eE F) 248 w55 (wSG 5 g c y l chi k T p b) [0, nA, nD, nI, nJ, nK, nL, nM, nN] [0, 5, 8, 21, 22, 24, 25, 28, 29, 30, 163] = some (.normal, wSG 6 g c y l chi k T p b) := by kernel_rfl
theorem wqG_6 : gCut Try.prog (eE F) 248 wG (wSG 6 g c y l chi k T p b) nO [0, nA, nD, nI, nJ, nK, nL, nM, nN] [0, 5, 8, 21, 22, 24, 25, 28, 29, 30] = some (.exit 10, wS35 g c y l chi k T p b) := by kernel_rfl
theorem wq56 : gRun Try.prog (eE F) 248 w56 (wS35 g c y l chi k T p b) [0, nA, nD, nI, nJ, nK, nL, nM, nN] [0, 5, 8, 21, 22, 24, 25, 28, 29, 30, 203] = some (.normal, wSH 0 g c y l chi k T p b) := by kernel_rfl
theorem wqH_0 : gCut Try.prog (eE F) 248 wH (wSH 0 g c y l chi k T p b) nO [0, nA, nD, nI, nJ, nK, nL, nM, nN] [0, 5, 8, 21, 22, 24, 25, 28, 29, 30, 203] = some (.normal, wSH 1 g c y l chi k T (meH F.o T 0 0 6 (p, b)).1 (meH F.o T 0 0 6 (p, b)).2) := by kernel_rfl
theorem wqH_1 : gCut Try.prog (eE F) 248 wH (wSH 1 g c y l chi k T p b) nO [0, nA, nD, nI, nJ, nK, nL, nM, nN] [0, 5, 8, 21, 22, 24, 25, 28, 29, 30, 203] = some (.normal, wSH 2 g c y l chi k T (meH F.o T 1 0 6 (p, b)).1 (meH F.o T 1 0 6 (p, b)).2) := by kernel_rfl
theorem wqH_2 : gCut Try.prog (eE F) 248 wH (wSH 2 g c y l chi k T p b) nO [0, nA, nD, nI, nJ, nK, nL, nM, nN] [0, 5, 8, 21, 22, 24, 25, 28, 29, 30, 203] = some (.normal, wSH 3 g c y l chi k T (meH F.o T 2 0 6 (p, b)).1 (meH F.o T 2 0 6 (p, b)).2) := by kernel_rfl
theorem wqH_3 : gCut Try.prog (eE F) 248 wH (wSH 3 g c y l chi k T p b) nO [0, nA, nD, nI, nJ, nK, nL, nM, nN] [0, 5, 8, 21, 22, 24, 25, 28, 29, 30, 203] = some (.normal, wSH 4 g c y l chi k T (meH F.o T 3 0 6 (p, b)).1 (meH F.o T 3 0 6 (p, b)).2) := by kernel_rfl
theorem wqH_4 : gCut Try.prog (eE F) 248 wH (wSH 4 g c y l chi k T p b) nO [0, nA, nD, nI, nJ, nK, nL, nM, nN] [0, 5, 8, 21, 22, 24, 25, 28, 29, 30, 203] = some (.normal, wSH 5 g c y l chi k T (meH F.o T 4 0 6 (p, b)).1 (meH F.o T 4 0 6 (p, b)).2) := by kernel_rfl
theorem wqH_5 : gCut Try.prog (eE F) 248 wH (wSH 5 g c y l chi k T p b) nO [0, nA, nD, nI, nJ, nK, nL, nM, nN] [0, 5, 8, 21, 22, 24, 25, 28, 29, 30, 203] = some (.normal, wSH 6 g c y l chi k T (meH F.o T 5 0 6 (p, b)).1 (meH F.o T 5 0 6 (p, b)).2) := by kernel_rfl
theorem wqH_6 : gCut Try.prog (eE F) 248 wH (wSH 6 g c y l chi k T p b) nO [0, nA, nD, nI, nJ, nK, nL, nM, nN] [0, 5, 8, 21, 22, 24, 25, 28, 29, 30] = some (.exit 16, wS35 g c y l chi k T p b) := by kernel_rfl
theorem wq65 : gRun Try.prog (eE F) 248 w65 (wS35 g c y l chi k T p b) [0, nD, nO] [0, 8, 25, 38, 39] = some (.normal, wS65 chi (meZ F g y k p b).1.b (meZ F g y k p b).1.a (meZ F g y k p b).2) := by kernel_rfl
theorem wq66 : gRun Try.prog (eE F) 248 w66 (wS65 chi ok g b) [0, nD, nO] [0, 8, 25, 38, 39] = bif !ok then some (.normal, wS65 0 ok g b) else some (.normal, { wS65 chi ok g b with lo := nP }) := by kernel_rfl
theorem wq68 : gRun Try.prog (eE F) 248 w68 (wS65 chi ok g b) [0, nD] [0, 8, 9, 10] = some (.ret, wR2 g chi ok b) := by kernel_rfl
end
end Go.Ab
/- filter.Meet: its pieces run (I). -/
namespace Go.Ab
open Go Go.Proofs
section
variable (F : GOps) (b : Bool) (g g' : Gs) (sky body : P2) (x z : X13) (Z : Mx) (m y u : R6) (s c l : M6) (Y : Nat → Int) (chi : Int) (k T p : Mx) (ok : Bool) (i j : Int)
theorem wqJ_0_0 : gCut Try.prog (eE F) 248 wGL (wSJ 0 0 g c y l chi k T p b) nO [0, nA, nD, nI, nJ, nK, nL, nM, nN] [0, 5, 8, 21, 22, 24, 25, 28, 29, 30, 32, 163, 166] = some (.normal, wSJ 0 1 g c y l chi k (setM T 0 0 (meT F g.p.at k c.at 0 0 b).1) p (meT F g.p.at k c.at 0 0 b).2) := by kernel_rfl
theorem wqJ_0_1 : gCut Try.prog (eE F) 248 wGL (wSJ 0 1 g c y l chi k T p b) nO [0, nA, nD, nI, nJ, nK, nL, nM, nN] [0, 5, 8, 21, 22, 24, 25, 28, 29, 30, 32, 163, 166] = some (.normal, wSJ 0 2 g c y l chi k (setM T 0 1 (meT F g.p.at k c.at 0 1 b).1) p (meT F g.p.at k c.at 0 1 b).2) := by kernel_rfl
theorem wqJ_0_2 : gCut Try.prog (eE F) 248 wGL (wSJ 0 2 g c y l chi k T p b) nO [0, nA, nD, nI, nJ, nK, nL, nM, nN] [0, 5, 8, 21, 22, 24, 25, 28, 29, 30, 32, 163, 166] = some (.normal, wSJ 0 3 g c y l chi k (setM T 0 2 (meT F g.p.at k c.at 0 2 b).1) p (meT F g.p.at k c.at 0 2 b).2) := by kernel_rfl
theorem wqJ_0_3 : gCut Try.prog (eE F) 248 wGL (wSJ 0 3 g c y l chi k T p b) nO [0, nA, nD, nI, nJ, nK, nL, nM, nN] [0, 5, 8, 21, 22, 24, 25, 28, 29, 30, 32, 163, 166] = some (.normal, wSJ 0 4 g c y l chi k (setM T 0 3 (meT F g.p.at k c.at 0 3 b).1) p (meT F g.p.at k c.at 0 3 b).2) := by kernel_rfl
theorem wqJ_0_4 : gCut Try.prog (eE F) 248 wGL (wSJ 0 4 g c y l chi k T p b) nO [0, nA, nD, nI, nJ, nK, nL, nM, nN] [0, 5, 8, 21, 22, 24, 25, 28, 29, 30, 32, 163, 166] = some (.normal, wSJ 0 5 g c y l chi k (setM T 0 4 (meT F g.p.at k c.at 0 4 b).1) p (meT F g.p.at k c.at 0 4 b).2) := by kernel_rfl
theorem wqJ_0_5 : gCut Try.prog (eE F) 248 wGL (wSJ 0 5 g c y l chi k T p b) nO [0, nA, nD, nI, nJ, nK, nL, nM, nN] [0, 5, 8, 21, 22, 24, 25, 28, 29, 30, 32, 163, 166] = some (.normal, wSJ 0 6 g c y l chi k (setM T 0 5 (meT F g.p.at k c.at 0 5 b).1) p (meT F g.p.at k c.at 0 5 b).2) := by kernel_rfl
theorem wqJ_0_6 : gCut Try.prog (eE F) 248 wGL (wSJ 0 6 g c y l chi k T p b) nO [0, nA, nD, nI, nJ, nK, nL, nM, nN] [0, 5, 8, 21, 22, 24, 25, 28, 29, 30, 163] = some (.exit 12, wSG 0 g c y l chi k T p b) := by kernel_rfl
theorem wqJ_1_0 : gCut Try.prog (eE F) 248 wGL (wSJ 1 0 g c y l chi k T p b) nO [0, nA, nD, nI, nJ, nK, nL, nM, nN] [0, 5, 8, 21, 22, 24, 25, 28, 29, 30, 32, 163, 166] = some (.normal, wSJ 1 1 g c y l chi k (setM T 1 0 (meT F g.p.at k c.at 1 0 b).1) p (meT F g.p.at k c.at 1 0 b).2) := by kernel_rfl
theorem wqJ_1_1 : gCut Try.prog (eE F) 248 wGL (wSJ 1 1 g c y l chi k T p b) nO [0, nA, nD, nI, nJ, nK, nL, nM, nN] [0, 5, 8, 21, 22, 24, 25, 28, 29, 30, 32, 163, 166] = some (.normal, wSJ 1 2 g c y l chi k (setM T 1 1 (meT F g.p.at k c.at 1 1 b).1) p (meT F g.p.at k c.at 1 1 b).2) := by kernel_rfl
theorem wqJ_1_2 : gCut Try.prog (eE F) 248 wGL (wSJ 1 2 g c y l chi k T p b) nO [0, nA, nD, nI, nJ, nK, nL, nM, nN] [0, 5, 8, 21, 22, 24, 25, 28, 29, 30, 32, 163, 166] = some (.normal, wSJ 1 3 g c y l chi k (setM T 1 2 (meT F g.p.at k c.at 1 2 b).1) p (meT F g.p.at k c.at 1 2 b).2) := by kernel_rfl
theorem wqJ_1_3 : gCut Try.prog (eE F) 248 wGL (wSJ 1 3 g c y l chi k T p b) nO [0, nA, nD, nI, nJ, nK, nL, nM, nN] [0, 5, 8, 21, 22, 24, 25, 28, 29, 30, 32, 163, 166] = some (.normal, wSJ 1 4 g c y l chi k (setM T 1 3 (meT F g.p.at k c.at 1 3 b).1) p (meT F g.p.at k c.at 1 3 b).2) := by kernel_rfl
theorem wqJ_1_4 : gCut Try.prog (eE F) 248 wGL (wSJ 1 4 g c y l chi k T p b) nO [0, nA, nD, nI, nJ, nK, nL, nM, nN] [0, 5, 8, 21, 22, 24, 25, 28, 29, 30, 32, 163, 166] = some (.normal, wSJ 1 5 g c y l chi k (setM T 1 4 (meT F g.p.at k c.at 1 4 b).1) p (meT F g.p.at k c.at 1 4 b).2) := by kernel_rfl
theorem wqJ_1_5 : gCut Try.prog (eE F) 248 wGL (wSJ 1 5 g c y l chi k T p b) nO [0, nA, nD, nI, nJ, nK, nL, nM, nN] [0, 5, 8, 21, 22, 24, 25, 28, 29, 30, 32, 163, 166] = some (.normal, wSJ 1 6 g c y l chi k (setM T 1 5 (meT F g.p.at k c.at 1 5 b).1) p (meT F g.p.at k c.at 1 5 b).2) := by kernel_rfl
theorem wqJ_1_6 : gCut Try.prog (eE F) 248 wGL (wSJ 1 6 g c y l chi k T p b) nO [0, nA, nD, nI, nJ, nK, nL, nM, nN] [0, 5, 8, 21, 22, 24, 25, 28, 29, 30, 163] = some (.exit 12, wSG 1 g c y l chi k T p b) := by kernel_rfl
theorem wqJ_2_0 : gCut Try.prog (eE F) 248 wGL (wSJ 2 0 g c y l chi k T p b) nO [0, nA, nD, nI, nJ, nK, nL, nM, nN] [0, 5, 8, 21, 22, 24, 25, 28, 29, 30, 32, 163, 166] = some (.normal, wSJ 2 1 g c y l chi k (setM T 2 0 (meT F g.p.at k c.at 2 0 b).1) p (meT F g.p.at k c.at 2 0 b).2) := by kernel_rfl
theorem wqJ_2_1 : gCut Try.prog (eE F) 248 wGL (wSJ 2 1 g c y l chi k T p b) nO [0, nA, nD, nI, nJ, nK, nL, nM, nN] [0, 5, 8, 21, 22, 24, 25, 28, 29, 30, 32, 163, 166] = some (.normal, wSJ 2 2 g c y l chi k (setM T 2 1 (meT F g.p.at k c.at 2 1 b).1) p (meT F g.p.at k c.at 2 1 b).2) := by kernel_rfl
theorem wqJ_2_2 : gCut Try.prog (eE F) 248 wGL (wSJ 2 2 g c y l chi k T p b) nO [0, nA, nD, nI, nJ, nK, nL, nM, nN] [0, 5, 8, 21, 22, 24, 25, 28, 29, 30, 32, 163, 166] = some (.normal, wSJ 2 3 g c y l chi k (setM T 2 2 (meT F g.p.at k c.at 2 2 b).1) p (meT F g.p.at k c.at 2 2 b).2) := by kernel_rfl
theorem wqJ_2_3 : gCut Try.prog (eE F) 248 wGL (wSJ 2 3 g c y l chi k T p b) nO [0, nA, nD, nI, nJ, nK, nL, nM, nN] [0, 5, 8, 21, 22, 24, 25, 28, 29, 30, 32, 163, 166] = some (.normal, wSJ 2 4 g c y l chi k (setM T 2 3 (meT F g.p.at k c.at 2 3 b).1) p (meT F g.p.at k c.at 2 3 b).2) := by kernel_rfl
theorem wqJ_2_4 : gCut Try.prog (eE F) 248 wGL (wSJ 2 4 g c y l chi k T p b) nO [0, nA, nD, nI, nJ, nK, nL, nM, nN] [0, 5, 8, 21, 22, 24, 25, 28, 29, 30, 32, 163, 166] = some (.normal, wSJ 2 5 g c y l chi k (setM T 2 4 (meT F g.p.at k c.at 2 4 b).1) p (meT F g.p.at k c.at 2 4 b).2) := by kernel_rfl
theorem wqJ_2_5 : gCut Try.prog (eE F) 248 wGL (wSJ 2 5 g c y l chi k T p b) nO [0, nA, nD, nI, nJ, nK, nL, nM, nN] [0, 5, 8, 21, 22, 24, 25, 28, 29, 30, 32, 163, 166] = some (.normal, wSJ 2 6 g c y l chi k (setM T 2 5 (meT F g.p.at k c.at 2 5 b).1) p (meT F g.p.at k c.at 2 5 b).2) := by kernel_rfl
theorem wqJ_2_6 : gCut Try.prog (eE F) 248 wGL (wSJ 2 6 g c y l chi k T p b) nO [0, nA, nD, nI, nJ, nK, nL, nM, nN] [0, 5, 8, 21, 22, 24, 25, 28, 29, 30, 163] = some (.exit 12, wSG 2 g c y l chi k T p b) := by kernel_rfl
end
end Go.Ab
/- filter.Meet: its pieces run (J). -/
namespace Go.Ab
open Go Go.Proofs
section
variable (F : GOps) (b : Bool) (g g' : Gs) (sky body : P2) (x z : X13) (Z : Mx) (m y u : R6) (s c l : M6) (Y : Nat → Int) (chi : Int) (k T p : Mx) (ok : Bool) (i j : Int)
theorem wqJ_3_0 : gCut Try.prog (eE F) 248 wGL (wSJ 3 0 g c y l chi k T p b) nO [0, nA, nD, nI, nJ, nK, nL, nM, nN] [0, 5, 8, 21, 22, 24, 25, 28, 29, 30, 32, 163, 166] = some (.normal, wSJ 3 1 g c y l chi k (setM T 3 0 (meT F g.p.at k c.at 3 0 b).1) p (meT F g.p.at k c.at 3 0 b).2) := by kernel_rfl
theorem wqJ_3_1 : gCut Try.prog (eE F) 248 wGL (wSJ 3 1 g c y l chi k T p b) nO [0, nA, nD, nI, nJ, nK, nL, nM, nN] [0, 5, 8, 21, 22, 24, 25, 28, 29, 30, 32, 163, 166] = some (.normal, wSJ 3 2 g c y l chi k (setM T 3 1 (meT F g.p.at k c.at 3 1 b).1) p (meT F g.p.at k c.at 3 1 b).2) := by kernel_rfl
theorem wqJ_3_2 : gCut Try.prog (eE F) 248 wGL (wSJ 3 2 g c y l chi k T p b) nO [0, nA, nD, nI, nJ, nK, nL, nM, nN] [0, 5, 8, 21, 22, 24, 25, 28, 29, 30, 32, 163, 166] = some (.normal, wSJ 3 3 g c y l chi k (setM T 3 2 (meT F g.p.at k c.at 3 2 b).1) p (meT F g.p.at k c.at 3 2 b).2) := by kernel_rfl
theorem wqJ_3_3 : gCut Try.prog (eE F) 248 wGL (wSJ 3 3 g c y l chi k T p b) nO [0, nA, nD, nI, nJ, nK, nL, nM, nN] [0, 5, 8, 21, 22, 24, 25, 28, 29, 30, 32, 163, 166] = some (.normal, wSJ 3 4 g c y l chi k (setM T 3 3 (meT F g.p.at k c.at 3 3 b).1) p (meT F g.p.at k c.at 3 3 b).2) := by kernel_rfl
theorem wqJ_3_4 : gCut Try.prog (eE F) 248 wGL (wSJ 3 4 g c y l chi k T p b) nO [0, nA, nD, nI, nJ, nK, nL, nM, nN] [0, 5, 8, 21, 22, 24, 25, 28, 29, 30, 32, 163, 166] = some (.normal, wSJ 3 5 g c y l chi k (setM T 3 4 (meT F g.p.at k c.at 3 4 b).1) p (meT F g.p.at k c.at 3 4 b).2) := by kernel_rfl
theorem wqJ_3_5 : gCut Try.prog (eE F) 248 wGL (wSJ 3 5 g c y l chi k T p b) nO [0, nA, nD, nI, nJ, nK, nL, nM, nN] [0, 5, 8, 21, 22, 24, 25, 28, 29, 30, 32, 163, 166] = some (.normal, wSJ 3 6 g c y l chi k (setM T 3 5 (meT F g.p.at k c.at 3 5 b).1) p (meT F g.p.at k c.at 3 5 b).2) := by kernel_rfl
theorem wqJ_3_6 : gCut Try.prog (eE F) 248 wGL (wSJ 3 6 g c y l chi k T p b) nO [0, nA, nD, nI, nJ, nK, nL, nM, nN] [0, 5, 8, 21, 22, 24, 25, 28, 29, 30, 163] = some (.exit 12, wSG 3 g c y l chi k T p b) := by kernel_rfl
theorem wqJ_4_0 : gCut Try.prog (eE F) 248 wGL (wSJ 4 0 g c y l chi k T p b) nO [0, nA, nD, nI, nJ, nK, nL, nM, nN] [0, 5, 8, 21, 22, 24, 25, 28, 29, 30, 32, 163, 166] = some (.normal, wSJ 4 1 g c y l chi k (setM T 4 0 (meT F g.p.at k c.at 4 0 b).1) p (meT F g.p.at k c.at 4 0 b).2) := by kernel_rfl
theorem wqJ_4_1 : gCut Try.prog (eE F) 248 wGL (wSJ 4 1 g c y l chi k T p b) nO [0, nA, nD, nI, nJ, nK, nL, nM, nN] [0, 5, 8, 21, 22, 24, 25, 28, 29, 30, 32, 163, 166] = some (.normal, wSJ 4 2 g c y l chi k (setM T 4 1 (meT F g.p.at k c.at 4 1 b).1) p (meT F g.p.at k c.at 4 1 b).2) := by kernel_rfl
theorem wqJ_4_2 : gCut Try.prog (eE F) 248 wGL (wSJ 4 2 g c y l chi k T p b) nO [0, nA, nD, nI, nJ, nK, nL, nM, nN] [0, 5, 8, 21, 22, 24, 25, 28, 29, 30, 32, 163, 166] = some (.normal, wSJ 4 3 g c y l chi k (setM T 4 2 (meT F g.p.at k c.at 4 2 b).1) p (meT F g.p.at k c.at 4 2 b).2) := by kernel_rfl
theorem wqJ_4_3 : gCut Try.prog (eE F) 248 wGL (wSJ 4 3 g c y l chi k T p b) nO [0, nA, nD, nI, nJ, nK, nL, nM, nN] [0, 5, 8, 21, 22, 24, 25, 28, 29, 30, 32, 163, 166] = some (.normal, wSJ 4 4 g c y l chi k (setM T 4 3 (meT F g.p.at k c.at 4 3 b).1) p (meT F g.p.at k c.at 4 3 b).2) := by kernel_rfl
theorem wqJ_4_4 : gCut Try.prog (eE F) 248 wGL (wSJ 4 4 g c y l chi k T p b) nO [0, nA, nD, nI, nJ, nK, nL, nM, nN] [0, 5, 8, 21, 22, 24, 25, 28, 29, 30, 32, 163, 166] = some (.normal, wSJ 4 5 g c y l chi k (setM T 4 4 (meT F g.p.at k c.at 4 4 b).1) p (meT F g.p.at k c.at 4 4 b).2) := by kernel_rfl
theorem wqJ_4_5 : gCut Try.prog (eE F) 248 wGL (wSJ 4 5 g c y l chi k T p b) nO [0, nA, nD, nI, nJ, nK, nL, nM, nN] [0, 5, 8, 21, 22, 24, 25, 28, 29, 30, 32, 163, 166] = some (.normal, wSJ 4 6 g c y l chi k (setM T 4 5 (meT F g.p.at k c.at 4 5 b).1) p (meT F g.p.at k c.at 4 5 b).2) := by kernel_rfl
theorem wqJ_4_6 : gCut Try.prog (eE F) 248 wGL (wSJ 4 6 g c y l chi k T p b) nO [0, nA, nD, nI, nJ, nK, nL, nM, nN] [0, 5, 8, 21, 22, 24, 25, 28, 29, 30, 163] = some (.exit 12, wSG 4 g c y l chi k T p b) := by kernel_rfl
theorem wqJ_5_0 : gCut Try.prog (eE F) 248 wGL (wSJ 5 0 g c y l chi k T p b) nO [0, nA, nD, nI, nJ, nK, nL, nM, nN] [0, 5, 8, 21, 22, 24, 25, 28, 29, 30, 32, 163, 166] = some (.normal, wSJ 5 1 g c y l chi k (setM T 5 0 (meT F g.p.at k c.at 5 0 b).1) p (meT F g.p.at k c.at 5 0 b).2) := by kernel_rfl
theorem wqJ_5_1 : gCut Try.prog (eE F) 248 wGL (wSJ 5 1 g c y l chi k T p b) nO [0, nA, nD, nI, nJ, nK, nL, nM, nN] [0, 5, 8, 21, 22, 24, 25, 28, 29, 30, 32, 163, 166] = some (.normal, wSJ 5 2 g c y l chi k (setM T 5 1 (meT F g.p.at k c.at 5 1 b).1) p (meT F g.p.at k c.at 5 1 b).2) := by kernel_rfl
theorem wqJ_5_2 : gCut Try.prog (eE F) 248 wGL (wSJ 5 2 g c y l chi k T p b) nO [0, nA, nD, nI, nJ, nK, nL, nM, nN] [0, 5, 8, 21, 22, 24, 25, 28, 29, 30, 32, 163, 166] = some (.normal, wSJ 5 3 g c y l chi k (setM T 5 2 (meT F g.p.at k c.at 5 2 b).1) p (meT F g.p.at k c.at 5 2 b).2) := by kernel_rfl
theorem wqJ_5_3 : gCut Try.prog (eE F) 248 wGL (wSJ 5 3 g c y l chi k T p b) nO [0, nA, nD, nI, nJ, nK, nL, nM, nN] [0, 5, 8, 21, 22, 24, 25, 28, 29, 30, 32, 163, 166] = some (.normal, wSJ 5 4 g c y l chi k (setM T 5 3 (meT F g.p.at k c.at 5 3 b).1) p (meT F g.p.at k c.at 5 3 b).2) := by kernel_rfl
theorem wqJ_5_4 : gCut Try.prog (eE F) 248 wGL (wSJ 5 4 g c y l chi k T p b) nO [0, nA, nD, nI, nJ, nK, nL, nM, nN] [0, 5, 8, 21, 22, 24, 25, 28, 29, 30, 32, 163, 166] = some (.normal, wSJ 5 5 g c y l chi k (setM T 5 4 (meT F g.p.at k c.at 5 4 b).1) p (meT F g.p.at k c.at 5 4 b).2) := by kernel_rfl
theorem wqJ_5_5 : gCut Try.prog (eE F) 248 wGL (wSJ 5 5 g c y l chi k T p b) nO [0, nA, nD, nI, nJ, nK, nL, nM, nN] [0, 5, 8, 21, 22, 24, 25, 28, 29, 30, 32, 163, 166] = some (.normal, wSJ 5 6 g c y l chi k (setM T 5 5 (meT F g.p.at k c.at 5 5 b).1) p (meT F g.p.at k c.at 5 5 b).2) := by kernel_rfl
theorem wqJ_5_6 : gCut Try.prog (eE F) 248 wGL (wSJ 5 6 g c y l chi k T p b) nO [0, nA, nD, nI, nJ, nK, nL, nM, nN] [0, 5, 8, 21, 22, 24, 25, 28, 29, 30, 163] = some (.exit 12, wSG 5 g c y l chi k T p b) := by kernel_rfl
end
end Go.Ab
