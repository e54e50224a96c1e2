/- A part of the proofs: lemmas, no statement of their own; no condition. -/
import Derived.Test.YtgccejhdohpojaaVcAll
import Derived.Test.YtgccejhdohpojaaNumAll
/- Attitudes: products, what goes back, turns: trees of both packages. -/
namespace Go.Ab
open Go Go.Proofs
def V4.zero : V4 := ⟨0, 0, 0, 0⟩
/-- The vector of an attitude (its first three numbers), and its last number. -/
def V4.v (q : V4) : V3 := ⟨q.w, q.x, q.y⟩
def V4.s (q : V4) : Int := q.z
def mk4 (a : V3) (s : Int) : V4 := ⟨a.x, a.y, a.z, s⟩
def gamNV (o : Ops) (v : VOps) : Gam := gamN o ++ gamV v
theorem gamNV_ok : GamOk Try.prog (gamNV opsF vopsF) := GamOk.append gamN_ok gamV_ok
def qmulW (o : Ops) (v : VOps) (p q : V4) (r : V3) (f : Bool) : V4 × Bool :=
  let st := o.mul f p.s q.s
  let d := v.dot st.2 (p.v, q.v, ())
  let w := o.sub d.2 st.1 d.1
  (mk4 r w.1, w.2)
def qmulP (o : Ops) (v : VOps) (p q : V4) (b : Bool) : V4 × Bool :=
  let x := v.scale b (p.v, q.s, ())
  let y := v.scale x.2 (q.v, p.s, ())
  let s := v.add y.2 (x.1, y.1, ())
  let z := v.cross s.2 (q.v, p.v, ())
  let r := v.add z.2 (s.1, z.1, ())
  qmulW o v p q r.1 r.2
def qmulR (o : Ops) (v : VOps) (p q : V4) (b : Bool) : V4 × Bool :=
  let x := v.scale b (p.v, q.s, ())
  let y := v.scale x.2 (q.v, p.s, ())
  let z := v.cross y.2 (q.v, p.v, ())
  let s := v.add z.2 (x.1, y.1, ())
  let r := v.add s.2 (s.1, z.1, ())
  qmulW o v p q r.1 r.2
def done4 (r : V4 × Bool) : V4 × Bool := (bif r.2 then V4.zero else r.1, r.2)
theorem mul92 (o : Ops) (v : VOps) (b : Bool) (p q : V4) : fnSum Try.prog { gam := gamNV o v } [] 20 92 [.ptr 0 0, .val (Cod.enc p), .val (Cod.enc q)] (row 25 b) =
    some (.val (Cod.enc (done4 (qmulP o v p q b)).1), row 25 (done4 (qmulP o v p q b)).2) := by
  refine Eq.trans (?_ : _ = bif (qmulP o v p q b).2 then some (.val (Cod.enc V4.zero), row 25 (qmulP o v p q b).2) else some (.val (Cod.enc (qmulP o v p q b).1), row 25 (qmulP o v p q b).2)) pull
  kernel_rfl
theorem mul93 (o : Ops) (v : VOps) (b : Bool) (p q : V4) : fnSum Try.prog { gam := gamNV o v } [] 20 93 [.ptr 0 0, .val (Cod.enc p), .val (Cod.enc q)] (row 27 b) =
    some (.val (Cod.enc (done4 (qmulR o v p q b)).1), row 27 (done4 (qmulR o v p q b)).2) := by
  refine Eq.trans (?_ : _ = bif (qmulR o v p q b).2 then some (.val (Cod.enc V4.zero), row 27 (qmulR o v p q b).2) else some (.val (Cod.enc (qmulR o v p q b).1), row 27 (qmulR o v p q b).2)) pull
  kernel_rfl
def qturn (v : VOps) (b : Bool) (p : V4 × V3 × Unit) : V3 × Bool :=
  let c := v.cross b (p.1.v, p.2.1, ())
  let t := v.scale c.2 (c.1, 2199023255552, ())
  let u := v.scale t.2 (t.1, p.1.s, ())
  let x := v.sub u.2 (p.2.1, u.1, ())
  let y := v.cross x.2 (p.1.v, t.1, ())
  v.add y.2 (x.1, y.1, ())
theorem turn87 (o : Ops) (v : VOps) (b : Bool) (q : V4) (u : V3) : fnSum Try.prog { gam := gamNV o v } [] 20 87 [.ptr 0 0, .val (Cod.enc q), .val (Cod.enc u)] (row 25 b) =
    some (.val (Cod.enc (qturn v b (q, u, ())).1), row 25 (qturn v b (q, u, ())).2) := by kernel_rfl
theorem turn88 (o : Ops) (v : VOps) (b : Bool) (q : V4) (u : V3) : fnSum Try.prog { gam := gamNV o v } [] 20 88 [.ptr 0 0, .val (Cod.enc q), .val (Cod.enc u)] (row 27 b) =
    some (.val (Cod.enc (qturn v b (q, u, ())).1), row 27 (qturn v b (q, u, ())).2) := by kernel_rfl
end Go.Ab
/- Attitudes: products are the document's, in whatever order. -/
namespace Go.Ab
open Go Go.Proofs
/-- A bad flow stills all. -/
structure VStills (v : VOps) : Prop where
  add : ∀ p, v.add true p = (V3.zero, true)
  sub : ∀ p, v.sub true p = (V3.zero, true)
  scale : ∀ p, v.scale true p = (V3.zero, true)
  cross : ∀ p, v.cross true p = (V3.zero, true)
  dot : ∀ p, v.dot true p = (0, true)
  norm : ∀ p, v.norm true p = (0, true)
theorem vopsF_stills : VStills vopsF := ⟨fun _ => rfl, fun _ => rfl, fun _ => rfl, fun _ => rfl, fun _ => rfl, fun _ => rfl⟩
theorem qmul_eq {v : VOps} (hv : VStills v) (o : Ops) (p q : V4) (b : Bool) : qmulP o v p q b = qmulR o v p q b := by
  unfold qmulP qmulR
  dsimp only
  cases b
  · rcases h1 : v.scale false (p.v, q.s, ()) with ⟨x, f1⟩
    cases f1
    · rcases h2 : v.scale false (q.v, p.s, ()) with ⟨y, f2⟩
      cases f2
      · rcases h3 : v.cross false (q.v, p.v, ()) with ⟨z, f3⟩
        rcases h4 : v.add false (x, y, ()) with ⟨s, f4⟩
        cases f3 <;> cases f4 <;> simp [h3, h4, hv.add, hv.cross]
      · simp [hv.add, hv.cross]
    · simp [hv.add, hv.cross, hv.scale]
  · simp [hv.add, hv.cross, hv.scale]
def qmul (b : Bool) (p : V4 × V4 × Unit) : V4 × Bool := done4 (qmulP opsF vopsF p.1 p.2.1 b)
theorem ok92 : SumOk Try.prog 92 (S 25 qmul) := S_ok gamNV_ok 20 fun b a => mul92 opsF vopsF b a.1 a.2.1
theorem ok93 : SumOk Try.prog 93 (S 27 qmul) := S_ok gamNV_ok 20 fun b a => by
  refine (mul93 opsF vopsF b a.1 a.2.1).trans ?_
  rw [← qmul_eq vopsF_stills]
  rfl
theorem ok87 : SumOk Try.prog 87 (S 25 (qturn vopsF)) := S_ok gamNV_ok 20 fun b a => turn87 opsF vopsF b a.1 a.2.1
theorem ok88 : SumOk Try.prog 88 (S 27 (qturn vopsF)) := S_ok gamNV_ok 20 fun b a => turn88 opsF vopsF b a.1 a.2.1
/-- Back. -/
def nb (x : Int) : Int := bif decide (x ≤ 4611686018427387904) then (bif decide (x ≥ -4611686018427387904) then IntKind.i64.wrap (0 - x) else x) else x
def qback (p : V4 × Unit) : V4 := ⟨nb p.1.w, nb p.1.x, nb p.1.y, p.1.z⟩
def nbP {α : Type} (x : Int) (K : Int → α) : α := bif decide (x ≤ 4611686018427387904) then (bif decide (x ≥ -4611686018427387904) then K (IntKind.i64.wrap (0 - x)) else K x) else K x
def nbR {α : Type} (x : Int) (K : Int → α) : α := bif decide (x ≥ -4611686018427387904) then (bif decide (x ≤ 4611686018427387904) then K (IntKind.i64.wrap (0 - x)) else K x) else K x
theorem nbP_eq {α : Type} (x : Int) (K : Int → α) : nbP x K = K (nb x) := by
  unfold nbP nb
  cases decide (x ≤ 4611686018427387904) <;> cases decide (x ≥ -4611686018427387904) <;> rfl
theorem nbR_eq {α : Type} (x : Int) (K : Int → α) : nbR x K = K (nb x) := by
  unfold nbR nb
  cases decide (x ≤ 4611686018427387904) <;> cases decide (x ≥ -4611686018427387904) <;> rfl
theorem back91 (q : V4) : fnSum Try.prog { gam := [] } [] 20 91 [.val (Cod.enc q)] [] =
    nbP q.w fun w => nbP q.x fun x => nbP q.y fun y => some (.val (Cod.enc (V4.mk w x y q.z)), []) := by kernel_rfl
theorem back94 (q : V4) : fnSum Try.prog { gam := [] } [] 20 94 [.val (Cod.enc q)] [] =
    nbR q.w fun w => nbR q.x fun x => nbR q.y fun y => some (.val (Cod.enc (V4.mk w x y q.z)), []) := by kernel_rfl
theorem ok91 : SumOk Try.prog 91 (S0 qback) := S0_ok (E := { gam := [] }) GamOk.nil 20 fun a => by
  refine (back91 a.1).trans ?_
  rw [nbP_eq, nbP_eq, nbP_eq]; rfl
theorem ok94 : SumOk Try.prog 94 (S0 qback) := S0_ok (E := { gam := [] }) GamOk.nil 20 fun a => by
  refine (back94 a.1).trans ?_
  rw [nbR_eq, nbR_eq, nbR_eq]; rfl
end Go.Ab
/- Attitudes: units. -/
namespace Go.Ab
open Go Go.Proofs
def neg4 (q : V4) : V4 := ⟨IntKind.i64.wrap (0 - q.w), IntKind.i64.wrap (0 - q.x), IntKind.i64.wrap (0 - q.y), IntKind.i64.wrap (0 - q.z)⟩
def plain (q : V4) : V4 := bif decide (q.z < 0) then neg4 q else q
def qunit0 (o : Ops) (q : V4) (n : Int) (f : Bool) : V4 × Bool :=
  let a := o.div f q.w n
  let b := o.div a.2 q.x n
  let c := o.div b.2 q.y n
  let d := o.div c.2 q.z n
  (⟨a.1, b.1, c.1, d.1⟩, d.2)
def qlen (o : Ops) (b : Bool) (q : V4) : Int × Bool := o.norm (o.norm b q.w q.x q.y).2 (o.norm b q.w q.x q.y).1 q.z 0
def qunitF (o : Ops) (q : V4) (n : Int) (f : Bool) : V4 × Bool := (plain (qunit0 o q n f).1, (qunit0 o q n f).2)
def qunitG (o : Ops) (q : V4) (n : Int) (f : Bool) : V4 × Bool := (bif (qunit0 o q n f).2 then V4.zero else plain (qunit0 o q n f).1, (qunit0 o q n f).2)
def qunit (o : Ops) (b : Bool) (p : V4 × Unit) : V4 × Bool := qunitF o p.1 (qlen o b p.1).1 (bif decide ((qlen o b p.1).1 < 549755813888) then true else (qlen o b p.1).2)
def qunitT (o : Ops) (e : TypeId) (q : V4) (n : Int) (f : Bool) : Option (AV × List Con) :=
  bif decide ((qunit0 o q n f).1.z < 0) then some (.val (Cod.enc (neg4 (qunit0 o q n f).1)), row e (qunit0 o q n f).2) else some (.val (Cod.enc (qunit0 o q n f).1), row e (qunit0 o q n f).2)
theorem qunitT_eq (o : Ops) (e : TypeId) (q : V4) (n : Int) (f : Bool) : qunitT o e q n f = some (.val (Cod.enc (qunitF o q n f).1), row e (qunitF o q n f).2) := pull
def qunitS (o : Ops) (e : TypeId) (q : V4) (n : Int) (f : Bool) : Option (AV × List Con) :=
  bif (qunit0 o q n f).2 then some (.val (Cod.enc V4.zero), row e (qunit0 o q n f).2) else qunitT o e q n f
theorem qunitS_eq (o : Ops) (e : TypeId) (q : V4) (n : Int) (f : Bool) : qunitS o e q n f = some (.val (Cod.enc (qunitG o q n f).1), row e (qunitG o q n f).2) := by
  unfold qunitS
  rw [qunitT_eq]
  exact pull
theorem unit72 (o : Ops) (b : Bool) (q : V4) : fnSum Try.prog { gam := gamN o } [] 20 72 [.ptr 0 0, .val (Cod.enc q)] (row 25 b) =
    bif decide ((qlen o b q).1 < 549755813888) then qunitT o 25 q (qlen o b q).1 true else qunitT o 25 q (qlen o b q).1 (qlen o b q).2 := by kernel_rfl
theorem unit73 (o : Ops) (b : Bool) (q : V4) : fnSum Try.prog { gam := gamN o } [] 20 73 [.ptr 0 0, .val (Cod.enc q)] (row 27 b) =
    bif decide ((qlen o b q).1 < 549755813888) then qunitS o 27 q (qlen o b q).1 true else qunitS o 27 q (qlen o b q).1 (qlen o b q).2 := by kernel_rfl
theorem ok72 : SumOk Try.prog 72 (S 25 (qunit opsF)) := S_ok gamN_ok 20 fun b a => by
  refine (unit72 opsF b a.1).trans ?_
  rw [qunitT_eq, qunitT_eq]
  exact pull2 (F := qunitF opsF a.1 (qlen opsF b a.1).1)
theorem fnorm_still (a b c : Int) : fnorm true a b c = (0, true) := rfl
/-- A length of four numbers: none of them is above it. -/
theorem qlen_ok {b : Bool} {q : V4} {n : Int} (h : qlen opsF b q = (n, false)) : b = false ∧ (num q.w = true ∧ num q.x = true ∧ num q.y = true ∧ num q.z = true) ∧
    (-n ≤ q.w ∧ q.w ≤ n) ∧ (-n ≤ q.x ∧ q.x ≤ n) ∧ (-n ≤ q.y ∧ q.y ≤ n) ∧ (-n ≤ q.z ∧ q.z ≤ n) ∧ 0 ≤ n ∧ n ≤ 4611686018427387904 := by
  unfold qlen at h
  simp only [opsF] at h
  cases b with
  | true => rw [fnorm_still] at h; exact absurd h (by rw [fnorm_still]; simp)
  | false =>
    rcases hm : fnorm false q.w q.x q.y with ⟨m, f⟩
    rw [hm] at h
    cases f with
    | true => exact absurd h (by rw [fnorm_still]; simp)
    | false =>
      obtain ⟨a1, a2, a3, _, a4, a5⟩ := fnorm_ok hm
      obtain ⟨p1, p2, p3⟩ := fnorm_parts hm
      obtain ⟨b1, b2, b3, _, b4, b5⟩ := fnorm_ok h
      obtain ⟨r1, r2, r3⟩ := fnorm_parts h
      exact ⟨rfl, ⟨a1, a2, a3, b2⟩, by omega, by omega, by omega, r2, b4, b5⟩
theorem fdiv_still (a b : Int) : fdiv true a b = (0, true) := rfl
theorem qunitG_eq {b : Bool} {q : V4} : qunitG opsF q (qlen opsF b q).1 (bif decide ((qlen opsF b q).1 < 549755813888) then true else (qlen opsF b q).2) = qunit opsF b (q, ()) := by
  unfold qunit qunitF qunitG
  rcases hn : qlen opsF b q with ⟨n, f⟩
  dsimp only
  have hbad : ∀ m, qunit0 opsF q m true = (V4.zero, true) := fun m => rfl
  by_cases h0 : n < 549755813888
  · simp only [h0, decide_true, cond_true, hbad]
    rfl
  · simp only [h0, decide_false, cond_false]
    cases f with
    | true => simp only [hbad]; rfl
    | false =>
      obtain ⟨rfl, ⟨a1, a2, a3, a4⟩, p1, p2, p3, p4, n0, n1⟩ := qlen_ok hn
      have hnn : num n = true := num_iff.2 (by omega)
      have e : (qunit0 opsF q n false).2 = false := by
        unfold qunit0
        simp only [opsF, fdiv_small a1 hnn (by omega) p1, fdiv_small a2 hnn (by omega) p2, fdiv_small a3 hnn (by omega) p3, fdiv_small a4 hnn (by omega) p4]
      rw [e]
      rfl
theorem ok73 : SumOk Try.prog 73 (S 27 (qunit opsF)) := S_ok gamN_ok 20 fun b a => by
  refine (unit73 opsF b a.1).trans ?_
  rw [qunitS_eq, qunitS_eq]
  refine (pull2 (F := qunitG opsF a.1 (qlen opsF b a.1).1)).trans ?_
  rw [qunitG_eq]
end Go.Ab
/- Attitudes of Rodrigues vectors, and back. -/
namespace Go.Ab
open Go Go.Proofs
def muldiv (o : Ops) (k e : Int) (x : Int) (f : Bool) : Int × Bool := o.div (o.mul f x k).2 (o.mul f x k).1 e
def rod0 (o : Ops) (p : V3) (d e : Int) (f : Bool) : V4 × Bool :=
  let r := each3 f (muldiv o 8796093022208 e p.x) (muldiv o 8796093022208 e p.y) (muldiv o 8796093022208 e p.z)
  let s := o.sub r.2 17592186044416 d
  let w := o.div s.2 s.1 e
  (mk4 r.1 w.1, w.2)
def rodAt (o : Ops) (v : VOps) (b : Bool) (p : V3) : V4 × Bool :=
  let d := v.dot b (p, p, ())
  let e := o.add d.2 17592186044416 d.1
  rod0 o p d.1 e.1 e.2
def fromRod (o : Ops) (v : VOps) (un : Bool → V4 × Unit → V4 × Bool) (b : Bool) (p : V3 × Unit) : V4 × Bool := un (rodAt o v b p.1).2 ((rodAt o v b p.1).1, ())
theorem rod80 (o : Ops) (v : VOps) (un : Bool → V4 × Unit → V4 × Bool) (b : Bool) (p : V3) : fnSum Try.prog { gam := (72, S 25 un) :: gamNV o v } [] 20 80 [.ptr 0 0, .val (Cod.enc p)] (row 25 b) =
    some (.val (Cod.enc (fromRod o v un b (p, ())).1), row 25 (fromRod o v un b (p, ())).2) := by kernel_rfl
theorem rod81 (o : Ops) (v : VOps) (un : Bool → V4 × Unit → V4 × Bool) (b : Bool) (p : V3) : fnSum Try.prog { gam := (73, S 27 un) :: gamNV o v } [] 20 81 [.ptr 0 0, .val (Cod.enc p)] (row 27 b) =
    some (.val (Cod.enc (fromRod o v un b (p, ())).1), row 27 (fromRod o v un b (p, ())).2) := by kernel_rfl
def add4 (o : Ops) (q : V4) (b : Bool) : Bool := (o.add (o.add (o.add (o.add b q.w 0).2 q.x 0).2 q.y 0).2 q.z 0).2
def torod0 (o : Ops) (q : V4) (f : Bool) : V3 × Bool :=
  let e := o.add f 1099511627776 q.z
  each3 e.2 (muldiv o 4398046511104 e.1 q.w) (muldiv o 4398046511104 e.1 q.x) (muldiv o 4398046511104 e.1 q.y)
def torodT (o : Ops) (e : TypeId) (q : V4) (f : Bool) : Option (AV × List Con) :=
  bif (torod0 o q f).2 then some (.val (Cod.enc V3.zero), row e (torod0 o q f).2) else some (.val (Cod.enc (torod0 o q f).1), row e (torod0 o q f).2)
theorem torodT_eq (o : Ops) (e : TypeId) (q : V4) (f : Bool) : torodT o e q f = some (.val (Cod.enc (done3 (torod0 o q f)).1), row e (done3 (torod0 o q f)).2) := pull
def toRod (o : Ops) (b : Bool) (p : V4 × Unit) : V3 × Bool := bif add4 o p.1 b then (V3.zero, add4 o p.1 b) else done3 (torod0 o (plain p.1) (add4 o p.1 b))
def torodS (o : Ops) (e : TypeId) (q : V4) (b : Bool) : Option (AV × List Con) :=
  bif add4 o q b then some (.val (Cod.enc V3.zero), row e (add4 o q b)) else bif decide (q.z < 0) then torodT o e (neg4 q) (add4 o q b) else torodT o e q (add4 o q b)
theorem torodS_eq (o : Ops) (e : TypeId) (q : V4) (b : Bool) : torodS o e q b = some (.val (Cod.enc (toRod o b (q, ())).1), row e (toRod o b (q, ())).2) := by
  unfold torodS toRod plain
  rw [torodT_eq, torodT_eq]
  dsimp only
  cases add4 o q b <;> cases decide (q.z < 0) <;> rfl
theorem torod82 (o : Ops) (b : Bool) (q : V4) : fnSum Try.prog { gam := gamN o } [] 20 82 [.ptr 0 0, .val (Cod.enc q)] (row 25 b) = torodS o 25 q b := by kernel_rfl
theorem torod83 (o : Ops) (b : Bool) (q : V4) : fnSum Try.prog { gam := gamN o } [] 20 83 [.ptr 0 0, .val (Cod.enc q)] (row 27 b) = torodS o 27 q b := by kernel_rfl
theorem ok80 : SumOk Try.prog 80 (S 25 (fromRod opsF vopsF (qunit opsF))) := S_ok (E := { gam := (72, S 25 (qunit opsF)) :: gamNV opsF vopsF }) (.cons ok72 gamNV_ok) 20 fun b a => rod80 opsF vopsF (qunit opsF) b a.1
theorem ok81 : SumOk Try.prog 81 (S 27 (fromRod opsF vopsF (qunit opsF))) := S_ok (E := { gam := (73, S 27 (qunit opsF)) :: gamNV opsF vopsF }) (.cons ok73 gamNV_ok) 20 fun b a => rod81 opsF vopsF (qunit opsF) b a.1
theorem ok82 : SumOk Try.prog 82 (S 25 (toRod opsF)) := S_ok gamN_ok 20 fun b a => (torod82 opsF b a.1).trans (torodS_eq opsF 25 a.1 b)
theorem ok83 : SumOk Try.prog 83 (S 27 (toRod opsF)) := S_ok gamN_ok 20 fun b a => (torod83 opsF b a.1).trans (torodS_eq opsF 27 a.1 b)
end Go.Ab
/- quat's awake. -/
namespace Go.Ab
open Go Go.Proofs
def v4b (a b : V4) : Bool := a.w == b.w && (a.x == b.x && (a.y == b.y && (a.z == b.z && true)))
theorem v4b_self (a : V4) : v4b a a = true := by simp [v4b]
theorem awake70 (r : Bool → V3 × Unit → V4 × Bool) : fnSum Try.prog { gam := [(80, S 25 r)] } [] 50 70 [] [] =
    bif v4b (r false (V3.zero, ())).1 ⟨0, 0, 0, 1099511627776⟩ then say (!(r false (V3.zero, ())).2) else sayF := by kernel_rfl
theorem rodZero : fromRod opsF vopsF (qunit opsF) false (V3.zero, ()) = (⟨0, 0, 0, 1099511627776⟩, false) := by kernel_rfl
theorem ok70 : SumOk Try.prog 70 (S0 fun (_ : Unit) => true) := S0_ok (E := { gam := [(80, S 25 (fromRod opsF vopsF (qunit opsF)))] }) (.cons ok80 .nil) 50 fun _ => by
  refine (awake70 (fromRod opsF vopsF (qunit opsF))).trans ?_
  rw [rodZero]
  rfl
end Go.Ab
