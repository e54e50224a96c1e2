/- A part of the proof of 'FilterPoints': lemmas, no statement of their own; no condition. -/
import Derived.Test.YtccgjhdpiaglaaaGBeA
import Derived.Test.YtccgjhdpiaglaaaFkB
/- The document's Move, by pieces. -/
namespace Go.Ab
open Go Go.Proofs
structure ROps where
  o : Ops
  vs : Bool → V3 × V3 × Unit → V3 × Bool
  va : Bool → V3 × V3 × Unit → V3 × Bool
  un : UFun
  mu : QFun
  fr : RFun
  tr : Bool → V4 × Unit → V3 × Bool
  bk : V4 × Unit → V4
  pt : Bool → Gs × Unit → X13 × Bool
  att : AFun
  mn : MFun
  ls : Bool → X13 × R6 × Unit → X13 × Bool
  pr : PrFun
  qt : Bool → V4 × V3 × Unit → V3 × Bool
  vu : Bool → V3 × Unit → V3 × Bool
  rt : Bool → M6 × Int × Unit → M6 × Bool
  so : Bool → M6 × R6 × Int × Unit → R6 × Bool
  ap : Bool → M6 × R6 × Int × Unit → R6 × Bool
def gamRf (F : ROps) : Gam := [(75, S 27 failV), (64, S 27 (op2 F.o.add)), (86, S 27 (op2 F.o.sub)), (67, S 27 (op2 F.o.mul)), (65, S 27 (op3 F.o.part)), (94, S 27 F.vs), (95, S 27 F.va), (115, S 27 F.un), (112, S 27 F.mu), (113, S 27 F.fr), (116, S 27 F.tr), (117, S0 F.bk), (48, S 27 F.pt), (114, S 27 F.att), (118, Sc 27 preM F.mn), (119, S 27 F.ls), (120, Sc 27 preP F.pr), (121, S0 fun (p : R6 × Unit) => (halvesV p.1).a), (111, S0 fun (p : R6 × Unit) => (halvesV p.1).b), (36, S 27 F.qt), (22, S 27 F.vu), (102, S 27 F.rt), (28, S 27 F.so), (32, S 27 F.ap)]
abbrev eR (F : ROps) : Env := { gam := gamRf F }
def rv1 (F : ROps) (g : Gs) (rate : V3) (ms : Int) (r : R6) (b : Bool) : V4 × Bool :=
  let s := F.vs b (rate, g.bias, ())
  let w := F.vs s.2 (s.1, (halvesV r).b, ())
  let w0 := F.o.part w.2 w.1.x ms 1000
  let w1 := F.o.part w0.2 w.1.y ms 1000
  let w2 := F.o.part w1.2 w.1.z ms 1000
  let p := F.fr w2.2 (⟨w0.1, w1.1, w2.1⟩, ())
  let a := F.att p.2 (g, r, ())
  F.mu a.2 (p.1, a.1, ())
def rv2 (F : ROps) (mid t : V4) (b : Bool) : V3 × Bool :=
  let m := F.mu b (t, F.bk (mid, ()), ())
  F.tr m.2 (m.1, ())
def setE (X : Mx) (k : Nat) (e : V3) : Mx := fun a c => bif Nat.beq a k then (match c with
  | 0 => e.x
  | 1 => e.y
  | 2 => e.z
  | _ => X a c) else X a c
def rowP (pr : PrFun) (x y : X13) (i : Nat) : Nat → Nat → Mx × Bool → Mx × Bool
  | _, 0, s => s
  | j, n + 1, s => rowP pr x y i (j + 1) n (setM s.1 i j (pr s.2 (x, (i : Int), y, (j : Int), ())).1, (pr s.2 (x, (i : Int), y, (j : Int), ())).2)
def rv3 (F : ROps) (ms : Int) (k : Nat) (P : Mx) (b : Bool) : Mx × Bool :=
  let a := F.o.part b 65536 ms 1000
  let s := F.o.add a.2 (P k k) a.1
  let c := F.o.part s.2 1024 ms 1000
  let t := F.o.add c.2 (P (k + 3) (k + 3)) c.1
  (setM (setM P k k s.1) (k + 3) (k + 3) t.1, t.2)
def rv4 (F : ROps) (mid : V4) (m : Nat → Int) (b : Bool) : V4 × Bool :=
  let f := F.fr b ((halvesV (R6.of m)).a, ())
  let t := F.mu f.2 (f.1, mid, ())
  F.un t.2 (t.1, ())
noncomputable def rvC : Code := Try.f52.body.getD .skip
noncomputable def rvcL : Code := (seqL rvC)
noncomputable def rvcRL : Code := (seqL (seqR rvC))
noncomputable def rvcRRL : Code := (seqL (seqR (seqR rvC)))
noncomputable def rvcRRRL : Code := (seqL (seqR (seqR (seqR rvC))))
noncomputable def rvcRRRRLL : Code := (seqL (seqL (seqR (seqR (seqR (seqR rvC))))))
noncomputable def rvcRRRRRL : Code := (seqL (seqR (seqR (seqR (seqR (seqR rvC))))))
noncomputable def rvcRRRRLRBB : Code := (inB (inB (seqR (seqL (seqR (seqR (seqR (seqR rvC))))))))
noncomputable def rvcRRRRRRLL : Code := (seqL (seqL (seqR (seqR (seqR (seqR (seqR (seqR rvC))))))))
noncomputable def rvcRRRRRRRL : Code := (seqL (seqR (seqR (seqR (seqR (seqR (seqR (seqR rvC))))))))
noncomputable def rvcRRRRRRLRBB : Code := (inB (inB (seqR (seqL (seqR (seqR (seqR (seqR (seqR (seqR rvC))))))))))
noncomputable def rvcRRRRRRRRLL : Code := (seqL (seqL (seqR (seqR (seqR (seqR (seqR (seqR (seqR (seqR rvC))))))))))
noncomputable def rvcRRRRRRRRRL : Code := (seqL (seqR (seqR (seqR (seqR (seqR (seqR (seqR (seqR (seqR rvC))))))))))
noncomputable def rvcRRRRRRRRRRL : Code := (seqL (seqR (seqR (seqR (seqR (seqR (seqR (seqR (seqR (seqR (seqR rvC)))))))))))
noncomputable def rvcRRRRRRRRLRBB : Code := (inB (inB (seqR (seqL (seqR (seqR (seqR (seqR (seqR (seqR (seqR (seqR rvC))))))))))))
noncomputable def rvcRRRRRRRRRRRLL : Code := (seqL (seqL (seqR (seqR (seqR (seqR (seqR (seqR (seqR (seqR (seqR (seqR (seqR rvC)))))))))))))
noncomputable def rvcRRRRRRRRRRRRLL : Code := (seqL (seqL (seqR (seqR (seqR (seqR (seqR (seqR (seqR (seqR (seqR (seqR (seqR (seqR rvC))))))))))))))
noncomputable def rvcRRRRRRRRRRRRRL : Code := (seqL (seqR (seqR (seqR (seqR (seqR (seqR (seqR (seqR (seqR (seqR (seqR (seqR (seqR rvC))))))))))))))
noncomputable def rvcRRRRRRRRRRRLRBB : Code := (inB (inB (seqR (seqL (seqR (seqR (seqR (seqR (seqR (seqR (seqR (seqR (seqR (seqR (seqR rvC)))))))))))))))
noncomputable def rvcRRRRRRRRRRRRRRL : Code := (seqL (seqR (seqR (seqR (seqR (seqR (seqR (seqR (seqR (seqR (seqR (seqR (seqR (seqR (seqR rvC)))))))))))))))
noncomputable def rvcRRRRRRRRRRRRRRR : Code := (seqR (seqR (seqR (seqR (seqR (seqR (seqR (seqR (seqR (seqR (seqR (seqR (seqR (seqR (seqR rvC)))))))))))))))
noncomputable def rvcRRRRRRRRRRRRLRBB : Code := (inB (inB (seqR (seqL (seqR (seqR (seqR (seqR (seqR (seqR (seqR (seqR (seqR (seqR (seqR (seqR rvC))))))))))))))))
theorem rvC_is : Try.f52.body = some (.seq rvcL (.seq rvcRL (.seq rvcRRL (.seq rvcRRRL (.seq (.seq rvcRRRRLL (.block 0 (.loop rvcRRRRLRBB))) (.seq rvcRRRRRL (.seq (.seq rvcRRRRRRLL (.block 4 (.loop rvcRRRRRRLRBB))) (.seq rvcRRRRRRRL (.seq (.seq rvcRRRRRRRRLL (.block 6 (.loop rvcRRRRRRRRLRBB))) (.seq rvcRRRRRRRRRL (.seq rvcRRRRRRRRRRL (.seq (.seq rvcRRRRRRRRRRRLL (.block 8 (.loop rvcRRRRRRRRRRRLRBB))) (.seq (.seq rvcRRRRRRRRRRRRLL (.block 12 (.loop rvcRRRRRRRRRRRRLRBB))) (.seq rvcRRRRRRRRRRRRRL (.seq rvcRRRRRRRRRRRRRRL rvcRRRRRRRRRRRRRRR))))))))))))))) := by kernel_rfl
theorem rvN : Try.f52.ntmps = 206 := by kernel_rfl
def rvS1 (g : Gs) (rate : V3) (ms : Int) (b : Bool) : St := gSt 206 [(0, .ptr 0 0), (3, .val (.int .i64 ms)), (5, .ptr 4096 0), (6, .ptr (4096 + 1 * 2 ^ 180) 0), (8, .ptr (4096 + 2 * 2 ^ 180) 0)] [(0, .row 27 ([.val (.bool b)])), (4096, .row 67 g.av), ((4096 + 1 * 2 ^ 180), .row 32 rate.av), ((4096 + 2 * 2 ^ 180), .row 67 Gs.zero.av)] (4096 + 3 * 2 ^ 180)
def rvS2 (g : Gs) (rate : V3) (ms : Int) (b : Bool) : St := gSt 206 [(0, .ptr 0 0), (3, .val (.int .i64 ms)), (5, .ptr 4096 0), (6, .ptr (4096 + 1 * 2 ^ 180) 0), (8, .ptr (4096 + 2 * 2 ^ 180) 0)] [(0, .row 27 ([.val (.bool b)])), (4096, .row 67 g.av), ((4096 + 1 * 2 ^ 180), .row 32 rate.av), ((4096 + 2 * 2 ^ 180), .row 67 Gs.zero.av)] (4096 + 3 * 2 ^ 180)
def rvS3 (g : Gs) (rate : V3) (ms : Int) (b : Bool) (x : X13) : St := gSt 206 [(0, .ptr 0 0), (3, .val (.int .i64 ms)), (5, .ptr 4096 0), (6, .ptr (4096 + 1 * 2 ^ 180) 0), (8, .ptr (4096 + 2 * 2 ^ 180) 0), (9, .ptr (4096 + 3 * 2 ^ 180) 0)] [(0, .row 27 ([.val (.bool b)])), (4096, .row 67 g.av), ((4096 + 1 * 2 ^ 180), .row 32 rate.av), ((4096 + 2 * 2 ^ 180), .row 67 Gs.zero.av), ((4096 + 3 * 2 ^ 180), .row 69 x.av)] (4096 + 4 * 2 ^ 180)
def rvS4 (g : Gs) (rate : V3) (ms : Int) (b : Bool) (x : X13) (T : Mx) : St := gSt 206 [(0, .ptr 0 0), (3, .val (.int .i64 ms)), (5, .ptr 4096 0), (6, .ptr (4096 + 1 * 2 ^ 180) 0), (8, .ptr (4096 + 2 * 2 ^ 180) 0), (9, .ptr (4096 + 3 * 2 ^ 180) 0), (10, .ptr (4096 + 4 * 2 ^ 180) 0)] [(0, .row 27 ([.val (.bool b)])), (4096, .row 67 g.av), ((4096 + 1 * 2 ^ 180), .row 32 rate.av), ((4096 + 2 * 2 ^ 180), .row 67 Gs.zero.av), ((4096 + 3 * 2 ^ 180), .row 69 x.av), ((4096 + 4 * 2 ^ 180), .row 112 (cells52 T))] (4096 + 5 * 2 ^ 180)
def rvS5 (g : Gs) (rate : V3) (ms : Int) (b : Bool) (x : X13) (T : Mx) (k : Int) : St := gSt 206 [(0, .ptr 0 0), (3, .val (.int .i64 ms)), (5, .ptr 4096 0), (6, .ptr (4096 + 1 * 2 ^ 180) 0), (8, .ptr (4096 + 2 * 2 ^ 180) 0), (9, .ptr (4096 + 3 * 2 ^ 180) 0), (10, .ptr (4096 + 4 * 2 ^ 180) 0), (11, .val (.int .i64 k))] [(0, .row 27 ([.val (.bool b)])), (4096, .row 67 g.av), ((4096 + 1 * 2 ^ 180), .row 32 rate.av), ((4096 + 2 * 2 ^ 180), .row 67 Gs.zero.av), ((4096 + 3 * 2 ^ 180), .row 69 x.av), ((4096 + 4 * 2 ^ 180), .row 112 (cells52 T))] (4096 + 5 * 2 ^ 180)
def rvF5 (F : ROps) (g : Gs) (rate : V3) (ms : Int) (x : X13) (k : Nat) (z : Mx × Bool) : Mx × Bool := (setT z.1 k (rv1 F g rate ms (x.row k) z.2).1, (rv1 F g rate ms (x.row k) z.2).2)
def rvS6 (g : Gs) (rate : V3) (ms : Int) (b : Bool) (x : X13) (T : Mx) : St := gSt 206 [(0, .ptr 0 0), (3, .val (.int .i64 ms)), (5, .ptr 4096 0), (6, .ptr (4096 + 1 * 2 ^ 180) 0), (8, .ptr (4096 + 2 * 2 ^ 180) 0), (9, .ptr (4096 + 3 * 2 ^ 180) 0), (10, .ptr (4096 + 4 * 2 ^ 180) 0)] [(0, .row 27 ([.val (.bool b)])), (4096, .row 67 g.av), ((4096 + 1 * 2 ^ 180), .row 32 rate.av), ((4096 + 2 * 2 ^ 180), .row 67 Gs.zero.av), ((4096 + 3 * 2 ^ 180), .row 69 x.av), ((4096 + 4 * 2 ^ 180), .row 112 (cells52 T))] (4096 + 5 * 2 ^ 180)
def rvS7 (g : Gs) (ms : Int) (b : Bool) (x : X13) (T : Mx) (mid : V4) : St := gSt 206 [(0, .ptr 0 0), (3, .val (.int .i64 ms)), (5, .ptr 4096 0), (8, .ptr (4096 + 2 * 2 ^ 180) 0), (9, .ptr (4096 + 3 * 2 ^ 180) 0), (10, .ptr (4096 + 4 * 2 ^ 180) 0), (14, .ptr (4096 + 5 * 2 ^ 180) 0)] [(0, .row 27 ([.val (.bool b)])), (4096, .row 67 g.av), ((4096 + 2 * 2 ^ 180), .row 67 Gs.zero.av), ((4096 + 3 * 2 ^ 180), .row 69 x.av), ((4096 + 4 * 2 ^ 180), .row 112 (cells52 T)), ((4096 + 5 * 2 ^ 180), .row 54 mid.av)] (4096 + 6 * 2 ^ 180)
def rvS8 (g : Gs) (ms : Int) (b : Bool) (T : Mx) (k : Int) (mid : V4) (X : Mx) : St := gSt 206 [(0, .ptr 0 0), (3, .val (.int .i64 ms)), (5, .ptr 4096 0), (8, .ptr (4096 + 2 * 2 ^ 180) 0), (9, .ptr (4096 + 3 * 2 ^ 180) 0), (10, .ptr (4096 + 4 * 2 ^ 180) 0), (14, .ptr (4096 + 5 * 2 ^ 180) 0), (15, .val (.int .i64 k))] [(0, .row 27 ([.val (.bool b)])), (4096, .row 67 g.av), ((4096 + 2 * 2 ^ 180), .row 67 Gs.zero.av), ((4096 + 3 * 2 ^ 180), .row 69 (cells13 X)), ((4096 + 4 * 2 ^ 180), .row 112 (cells52 T)), ((4096 + 5 * 2 ^ 180), .row 54 mid.av)] (4096 + 6 * 2 ^ 180)
def rvF8 (F : ROps) (T : Mx) (mid : V4) (k : Nat) (z : Mx × Bool) : Mx × Bool := (setE z.1 k (rv2 F mid (v4of (T k)) z.2).1, (rv2 F mid (v4of (T k)) z.2).2)
def rvS9 (g : Gs) (ms : Int) (b : Bool) (mid : V4) (X : Mx) : St := gSt 206 [(0, .ptr 0 0), (3, .val (.int .i64 ms)), (5, .ptr 4096 0), (8, .ptr (4096 + 2 * 2 ^ 180) 0), (9, .ptr (4096 + 3 * 2 ^ 180) 0), (14, .ptr (4096 + 5 * 2 ^ 180) 0)] [(0, .row 27 ([.val (.bool b)])), (4096, .row 67 g.av), ((4096 + 2 * 2 ^ 180), .row 67 Gs.zero.av), ((4096 + 3 * 2 ^ 180), .row 69 (cells13 X)), ((4096 + 5 * 2 ^ 180), .row 54 mid.av)] (4096 + 6 * 2 ^ 180)
def rvS10 (g : Gs) (ms : Int) (b : Bool) (mid : V4) (X : Mx) (m : (Nat → Int)) : St := gSt 206 [(0, .ptr 0 0), (3, .val (.int .i64 ms)), (5, .ptr 4096 0), (8, .ptr (4096 + 2 * 2 ^ 180) 0), (9, .ptr (4096 + 3 * 2 ^ 180) 0), (14, .ptr (4096 + 5 * 2 ^ 180) 0), (17, .ptr (4096 + 6 * 2 ^ 180) 0)] [(0, .row 27 ([.val (.bool b)])), (4096, .row 67 g.av), ((4096 + 2 * 2 ^ 180), .row 67 Gs.zero.av), ((4096 + 3 * 2 ^ 180), .row 69 (cells13 X)), ((4096 + 5 * 2 ^ 180), .row 54 mid.av), ((4096 + 6 * 2 ^ 180), .row 45 (ints 6 m))] (4096 + 7 * 2 ^ 180)
def rvS11 (g : Gs) (ms : Int) (b : Bool) (k : Int) (mid : V4) (X : Mx) (m : (Nat → Int)) : St := gSt 206 [(0, .ptr 0 0), (3, .val (.int .i64 ms)), (5, .ptr 4096 0), (8, .ptr (4096 + 2 * 2 ^ 180) 0), (9, .ptr (4096 + 3 * 2 ^ 180) 0), (14, .ptr (4096 + 5 * 2 ^ 180) 0), (17, .ptr (4096 + 6 * 2 ^ 180) 0), (18, .val (.int .i64 k))] [(0, .row 27 ([.val (.bool b)])), (4096, .row 67 g.av), ((4096 + 2 * 2 ^ 180), .row 67 Gs.zero.av), ((4096 + 3 * 2 ^ 180), .row 69 (cells13 X)), ((4096 + 5 * 2 ^ 180), .row 54 mid.av), ((4096 + 6 * 2 ^ 180), .row 45 (ints 6 m))] (4096 + 7 * 2 ^ 180)
def rvF11 (F : ROps) (X : Mx) (k : Nat) (z : (Nat → Int) × Bool) : (Nat → Int) × Bool := (setR z.1 k (F.mn z.2 (x13of X, (k : Int), ())).1, (F.mn z.2 (x13of X, (k : Int), ())).2)
def rvS12 (g : Gs) (ms : Int) (b : Bool) (mid : V4) (X : Mx) (m : (Nat → Int)) : St := gSt 206 [(0, .ptr 0 0), (3, .val (.int .i64 ms)), (5, .ptr 4096 0), (8, .ptr (4096 + 2 * 2 ^ 180) 0), (9, .ptr (4096 + 3 * 2 ^ 180) 0), (14, .ptr (4096 + 5 * 2 ^ 180) 0), (17, .ptr (4096 + 6 * 2 ^ 180) 0)] [(0, .row 27 ([.val (.bool b)])), (4096, .row 67 g.av), ((4096 + 2 * 2 ^ 180), .row 67 Gs.zero.av), ((4096 + 3 * 2 ^ 180), .row 69 (cells13 X)), ((4096 + 5 * 2 ^ 180), .row 54 mid.av), ((4096 + 6 * 2 ^ 180), .row 45 (ints 6 m))] (4096 + 7 * 2 ^ 180)
def rvS13 (g : Gs) (ms : Int) (b : Bool) (mid : V4) (m : (Nat → Int)) (d : X13) : St := gSt 206 [(0, .ptr 0 0), (3, .val (.int .i64 ms)), (5, .ptr 4096 0), (8, .ptr (4096 + 2 * 2 ^ 180) 0), (14, .ptr (4096 + 5 * 2 ^ 180) 0), (17, .ptr (4096 + 6 * 2 ^ 180) 0), (19, .ptr (4096 + 7 * 2 ^ 180) 0)] [(0, .row 27 ([.val (.bool b)])), (4096, .row 67 g.av), ((4096 + 2 * 2 ^ 180), .row 67 Gs.zero.av), ((4096 + 5 * 2 ^ 180), .row 54 mid.av), ((4096 + 6 * 2 ^ 180), .row 45 (ints 6 m)), ((4096 + 7 * 2 ^ 180), .row 69 d.av)] (4096 + 8 * 2 ^ 180)
def rvS14 (g : Gs) (ms : Int) (b : Bool) (mid : V4) (m : (Nat → Int)) (d : X13) (P : Mx) : St := gSt 206 [(0, .ptr 0 0), (3, .val (.int .i64 ms)), (5, .ptr 4096 0), (8, .ptr (4096 + 2 * 2 ^ 180) 0), (14, .ptr (4096 + 5 * 2 ^ 180) 0), (17, .ptr (4096 + 6 * 2 ^ 180) 0), (19, .ptr (4096 + 7 * 2 ^ 180) 0), (20, .ptr (4096 + 8 * 2 ^ 180) 0)] [(0, .row 27 ([.val (.bool b)])), (4096, .row 67 g.av), ((4096 + 2 * 2 ^ 180), .row 67 Gs.zero.av), ((4096 + 5 * 2 ^ 180), .row 54 mid.av), ((4096 + 6 * 2 ^ 180), .row 45 (ints 6 m)), ((4096 + 7 * 2 ^ 180), .row 69 d.av), ((4096 + 8 * 2 ^ 180), .row 67 (Gs.zero.q.av ++ (Gs.zero.bias.av ++ cells36 P)))] (4096 + 9 * 2 ^ 180)
def rvS15 (g : Gs) (ms : Int) (b : Bool) (k : Int) (mid : V4) (m : (Nat → Int)) (d : X13) (P : Mx) : St := gSt 206 [(0, .ptr 0 0), (3, .val (.int .i64 ms)), (5, .ptr 4096 0), (8, .ptr (4096 + 2 * 2 ^ 180) 0), (14, .ptr (4096 + 5 * 2 ^ 180) 0), (17, .ptr (4096 + 6 * 2 ^ 180) 0), (19, .ptr (4096 + 7 * 2 ^ 180) 0), (20, .ptr (4096 + 8 * 2 ^ 180) 0), (21, .val (.int .i64 k))] [(0, .row 27 ([.val (.bool b)])), (4096, .row 67 g.av), ((4096 + 2 * 2 ^ 180), .row 67 Gs.zero.av), ((4096 + 5 * 2 ^ 180), .row 54 mid.av), ((4096 + 6 * 2 ^ 180), .row 45 (ints 6 m)), ((4096 + 7 * 2 ^ 180), .row 69 d.av), ((4096 + 8 * 2 ^ 180), .row 67 (Gs.zero.q.av ++ (Gs.zero.bias.av ++ cells36 P)))] (4096 + 9 * 2 ^ 180)
def rvF15 (F : ROps) (d : X13) (k : Nat) (z : Mx × Bool) : Mx × Bool := rowP F.pr d d k 0 6 (z.1, z.2)
def rvS16 (g : Gs) (ms : Int) (b : Bool) (mid : V4) (m : (Nat → Int)) (P : Mx) : St := gSt 206 [(0, .ptr 0 0), (3, .val (.int .i64 ms)), (5, .ptr 4096 0), (8, .ptr (4096 + 2 * 2 ^ 180) 0), (14, .ptr (4096 + 5 * 2 ^ 180) 0), (17, .ptr (4096 + 6 * 2 ^ 180) 0), (20, .ptr (4096 + 8 * 2 ^ 180) 0)] [(0, .row 27 ([.val (.bool b)])), (4096, .row 67 g.av), ((4096 + 2 * 2 ^ 180), .row 67 Gs.zero.av), ((4096 + 5 * 2 ^ 180), .row 54 mid.av), ((4096 + 6 * 2 ^ 180), .row 45 (ints 6 m)), ((4096 + 8 * 2 ^ 180), .row 67 (Gs.zero.q.av ++ (Gs.zero.bias.av ++ cells36 P)))] (4096 + 9 * 2 ^ 180)
def rvS17 (g : Gs) (ms : Int) (b : Bool) (k : Int) (mid : V4) (m : (Nat → Int)) (P : Mx) : St := gSt 206 [(0, .ptr 0 0), (3, .val (.int .i64 ms)), (5, .ptr 4096 0), (8, .ptr (4096 + 2 * 2 ^ 180) 0), (14, .ptr (4096 + 5 * 2 ^ 180) 0), (17, .ptr (4096 + 6 * 2 ^ 180) 0), (20, .ptr (4096 + 8 * 2 ^ 180) 0), (23, .val (.int .i64 k))] [(0, .row 27 ([.val (.bool b)])), (4096, .row 67 g.av), ((4096 + 2 * 2 ^ 180), .row 67 Gs.zero.av), ((4096 + 5 * 2 ^ 180), .row 54 mid.av), ((4096 + 6 * 2 ^ 180), .row 45 (ints 6 m)), ((4096 + 8 * 2 ^ 180), .row 67 (Gs.zero.q.av ++ (Gs.zero.bias.av ++ cells36 P)))] (4096 + 9 * 2 ^ 180)
def rvF17 (F : ROps) (ms : Int) (k : Nat) (z : Mx × Bool) : Mx × Bool := rv3 F ms k z.1 z.2
def rvS18 (g : Gs) (ms : Int) (b : Bool) (mid : V4) (m : (Nat → Int)) (P : Mx) : St := gSt 206 [(0, .ptr 0 0), (3, .val (.int .i64 ms)), (5, .ptr 4096 0), (8, .ptr (4096 + 2 * 2 ^ 180) 0), (14, .ptr (4096 + 5 * 2 ^ 180) 0), (17, .ptr (4096 + 6 * 2 ^ 180) 0), (20, .ptr (4096 + 8 * 2 ^ 180) 0)] [(0, .row 27 ([.val (.bool b)])), (4096, .row 67 g.av), ((4096 + 2 * 2 ^ 180), .row 67 Gs.zero.av), ((4096 + 5 * 2 ^ 180), .row 54 mid.av), ((4096 + 6 * 2 ^ 180), .row 45 (ints 6 m)), ((4096 + 8 * 2 ^ 180), .row 67 (Gs.zero.q.av ++ (Gs.zero.bias.av ++ cells36 P)))] (4096 + 9 * 2 ^ 180)
def rvS19 (g : Gs) (b : Bool) (m : (Nat → Int)) (P : Mx) (q : V4) : St := gSt 206 [(0, .ptr 0 0), (5, .ptr 4096 0), (8, .ptr (4096 + 2 * 2 ^ 180) 0), (17, .ptr (4096 + 6 * 2 ^ 180) 0), (20, .ptr (4096 + 8 * 2 ^ 180) 0)] [(0, .row 27 ([.val (.bool b)])), (4096, .row 67 g.av), ((4096 + 2 * 2 ^ 180), .row 67 Gs.zero.av), ((4096 + 6 * 2 ^ 180), .row 45 (ints 6 m)), ((4096 + 8 * 2 ^ 180), .row 67 (q.av ++ (Gs.zero.bias.av ++ cells36 P)))] (4096 + 9 * 2 ^ 180)
def rvS20 (b : Bool) (P : Mx) (q : V4) (bi : V3) : St := gSt 206 [(0, .ptr 0 0), (8, .ptr (4096 + 2 * 2 ^ 180) 0), (20, .ptr (4096 + 8 * 2 ^ 180) 0)] [(0, .row 27 ([.val (.bool b)])), ((4096 + 2 * 2 ^ 180), .row 67 Gs.zero.av), ((4096 + 8 * 2 ^ 180), .row 67 (q.av ++ (bi.av ++ cells36 P)))] (4096 + 9 * 2 ^ 180)
def rvS21 (b : Bool) (r : Gs) : St := gSt 206 [(8, .ptr (4096 + 2 * 2 ^ 180) 0)] [(0, .row 27 ([.val (.bool b)])), ((4096 + 2 * 2 ^ 180), .row 67 r.av)] (4096 + 9 * 2 ^ 180)
end Go.Ab
