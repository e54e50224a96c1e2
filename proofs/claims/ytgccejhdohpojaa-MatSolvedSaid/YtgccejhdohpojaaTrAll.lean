/- A part of the proofs: lemmas, no statement of their own; no condition. -/
import Derived.Test.YtgccejhdohpojaaQtAll
/- Attitudes of matrices: trees of both packages. -/
namespace Go.Ab
open Go Go.Proofs
def fmBase (o : Ops) (m : M9) (f : Bool) : V3 × Bool :=
  let x := o.sub f m.b.z m.c.y
  let y := o.sub x.2 m.c.x m.a.z
  let z := o.sub y.2 m.a.y m.b.x
  (⟨x.1, y.1, z.1⟩, z.2)
def fmL (o : Ops) (un : Bool → V4 × Unit → V4 × Bool) (m : M9) (t : Int) (f : Bool) : V4 × Bool :=
  let r := fmBase o m f
  let w := o.add r.2 1099511627776 t
  un w.2 (⟨r.1.x, r.1.y, r.1.z, w.1⟩, ())
def fmD (o : Ops) (f : Bool) (p q r : Int) : Int × Bool :=
  let a := o.add f 1099511627776 p
  let b := o.sub a.2 a.1 q
  o.sub b.2 b.1 r
def fm0 (o : Ops) (un : Bool → V4 × Unit → V4 × Bool) (m : M9) (f : Bool) : V4 × Bool :=
  let r := fmBase o m f
  let d := fmD o r.2 m.a.x m.b.y m.c.z
  let j := o.add d.2 m.a.y m.b.x
  let k := o.add j.2 m.a.z m.c.x
  un k.2 (⟨d.1, j.1, k.1, r.1.x⟩, ())
def fm1 (o : Ops) (un : Bool → V4 × Unit → V4 × Bool) (m : M9) (f : Bool) : V4 × Bool :=
  let r := fmBase o m f
  let d := fmD o r.2 m.b.y m.c.z m.a.x
  let j := o.add d.2 m.b.z m.c.y
  let k := o.add j.2 m.b.x m.a.y
  un k.2 (⟨k.1, d.1, j.1, r.1.y⟩, ())
def fm2 (o : Ops) (un : Bool → V4 × Unit → V4 × Bool) (m : M9) (f : Bool) : V4 × Bool :=
  let r := fmBase o m f
  let d := fmD o r.2 m.c.z m.a.x m.b.y
  let j := o.add d.2 m.c.x m.a.z
  let k := o.add j.2 m.c.y m.b.z
  un k.2 (⟨j.1, k.1, d.1, r.1.z⟩, ())
def fmT (o : Ops) (m : M9) (b : Bool) : Int × Bool := o.add (o.add b m.a.x m.b.y).2 (o.add b m.a.x m.b.y).1 m.c.z
def flow3 (o : Ops) (r : V3) (f : Bool) : Bool := (each3 f (fun b => o.add b r.x 0) (fun b => o.add b r.y 0) (fun b => o.add b r.z 0)).2
def fmF (o : Ops) (m : M9) (b : Bool) : Bool := flow3 o m.c (flow3 o m.b (flow3 o m.a (fmT o m b).2))
def fmPick {α : Type} (m : M9) (t : Int) (l k0 k1 k2 : α) : α :=
  bif decide (m.a.x > t) then (bif decide (m.b.y > m.a.x) then (bif decide (m.c.z > m.b.y) then k2 else k1) else (bif decide (m.c.z > m.a.x) then k2 else k0))
  else (bif decide (m.b.y > t) then (bif decide (m.c.z > m.b.y) then k2 else k1) else (bif decide (m.c.z > t) then k2 else l))
def fromMat (o : Ops) (un : Bool → V4 × Unit → V4 × Bool) (b : Bool) (p : M9 × Unit) : V4 × Bool :=
  bif fmF o p.1 b then (V4.zero, fmF o p.1 b) else
    fmPick p.1 (fmT o p.1 b).1 (fmL o un p.1 (fmT o p.1 b).1 (fmF o p.1 b)) (fm0 o un p.1 (fmF o p.1 b)) (fm1 o un p.1 (fmF o p.1 b)) (fm2 o un p.1 (fmF o p.1 b))
def sayR {ω : Type} [Cod ω] (e : TypeId) (r : ω × Bool) : Option (AV × List Con) := some (.val (Cod.enc r.1), row e r.2)
def fmTree (o : Ops) (un : Bool → V4 × Unit → V4 × Bool) (e : TypeId) (b : Bool) (m : M9) : Option (AV × List Con) :=
  bif fmF o m b then sayR e (V4.zero, fmF o m b) else
    fmPick m (fmT o m b).1 (sayR e (fmL o un m (fmT o m b).1 (fmF o m b))) (sayR e (fm0 o un m (fmF o m b))) (sayR e (fm1 o un m (fmF o m b))) (sayR e (fm2 o un m (fmF o m b)))
theorem fmTree_eq (o : Ops) (un : Bool → V4 × Unit → V4 × Bool) (e : TypeId) (b : Bool) (m : M9) : fmTree o un e b m = some (.val (Cod.enc (fromMat o un b (m, ())).1), row e (fromMat o un b (m, ())).2) := by
  unfold fmTree fromMat fmPick sayR
  dsimp only
  generalize (fmT o m b).1 = t
  cases fmF o m b <;> cases decide (m.a.x > t) <;> cases decide (m.b.y > m.a.x) <;> cases decide (m.c.z > m.b.y) <;> cases decide (m.c.z > m.a.x) <;> cases decide (m.b.y > t) <;> cases decide (m.c.z > t) <;> rfl
theorem mat100 (o : Ops) (un : Bool → V4 × Unit → V4 × Bool) (b : Bool) (m : M9) : fnSum Try.prog { gam := (72, S 25 un) :: (50, S 25 (vop o.add)) :: gamN o } [] 20 100 [.ptr 0 0, .val (Cod.enc m)] (row 25 b) = fmTree o un 25 b m := by kernel_rfl
theorem mat152 (o : Ops) (un : Bool → V4 × Unit → V4 × Bool) (b : Bool) (m : M9) : fnSum Try.prog { gam := (73, S 27 un) :: gamN o } [] 20 152 [.ptr 0 0, .val (Cod.enc m)] (row 27 b) = fmTree o un 27 b m := by kernel_rfl
end Go.Ab
/- Two directions: how far apart they are, three directions of two, the attitude of two pairs: trees. -/
namespace Go.Ab
open Go Go.Proofs
structure P2 where
  a : V3
  b : V3
instance : Cod P2 where
  enc m := .agg #[.int .i64 m.a.x, .int .i64 m.a.y, .int .i64 m.a.z, .int .i64 m.b.x, .int .i64 m.b.y, .int .i64 m.b.z]
  dec v := match v with | .agg ⟨[.int .i64 a, .int .i64 b, .int .i64 c, .int .i64 d, .int .i64 e, .int .i64 f]⟩ => some ⟨⟨a, b, c⟩, ⟨d, e, f⟩⟩ | _ => none
  law v a h := by split at h <;> simp_all; subst h; simp
theorem gamU_ok : GamOk Try.prog ((72, S 25 (qunit opsF)) :: (50, S 25 (vop opsF.add)) :: gamN opsF) := .cons ok72 (.cons ok50 gamN_ok)
theorem ok100 : SumOk Try.prog 100 (S 25 (fromMat opsF (qunit opsF))) := S_ok gamU_ok 20 fun b a => (mat100 opsF (qunit opsF) b a.1).trans (fmTree_eq opsF (qunit opsF) 25 b a.1)
theorem ok152 : SumOk Try.prog 152 (S 27 (fromMat opsF (qunit opsF))) := S_ok (E := { gam := (73, S 27 (qunit opsF)) :: gamN opsF }) (.cons ok73 gamN_ok) 20 fun b a => (mat152 opsF (qunit opsF) b a.1).trans (fmTree_eq opsF (qunit opsF) 27 b a.1)
def apart (pa : Bool → V3 × V3 × Unit → Two Int Int × Bool) (b : Bool) (p : V3 × V3 × Unit) : Bool × Bool :=
  (bif !(pa b p).2 then decide ((pa b p).1.a ≥ 190928190487) else false, (pa b p).2)
theorem apart96 (pa : Bool → V3 × V3 × Unit → Two Int Int × Bool) (b : Bool) (x y : V3) : fnSum Try.prog { gam := [(74, S 25 pa)] } [] 20 96 [.ptr 0 0, .val (Cod.enc x), .val (Cod.enc y)] (row 25 b) =
    bif !(pa b (x, y, ())).2 then some (.val (.bool (decide ((pa b (x, y, ())).1.a ≥ 190928190487))), row 25 (pa b (x, y, ())).2) else some (.val (.bool false), row 25 (pa b (x, y, ())).2) := by kernel_rfl
theorem apart97 (pa : Bool → V3 × V3 × Unit → Two Int Int × Bool) (b : Bool) (x y : V3) : fnSum Try.prog { gam := [(75, S 27 pa)] } [] 20 97 [.ptr 0 0, .val (Cod.enc x), .val (Cod.enc y)] (row 27 b) =
    bif !(pa b (x, y, ())).2 then some (.val (.bool (decide ((pa b (x, y, ())).1.a ≥ 190928190487))), row 27 (pa b (x, y, ())).2) else some (.val (.bool false), row 27 (pa b (x, y, ())).2) := by kernel_rfl
theorem ok96 : SumOk Try.prog 96 (S 25 (apart (vparts vopsF))) := S_ok (E := { gam := [(74, S 25 (vparts vopsF))] }) (.cons ok74 .nil) 20 fun b a => by
  refine (apart96 (vparts vopsF) b a.1 a.2.1).trans ?_
  unfold apart
  generalize (vparts vopsF b a) = r
  obtain ⟨_, f⟩ := r
  cases f <;> rfl
theorem ok97 : SumOk Try.prog 97 (S 27 (apart (vparts vopsF))) := S_ok (E := { gam := [(75, S 27 (vparts vopsF))] }) (.cons ok75 .nil) 20 fun b a => by
  refine (apart97 (vparts vopsF) b a.1 a.2.1).trans ?_
  unfold apart
  generalize (vparts vopsF b a) = r
  obtain ⟨_, f⟩ := r
  cases f <;> rfl
def frame (v : VOps) (b : Bool) (p : P2 × Unit) : M9 × Bool :=
  let u := v.unit b (p.1.a, ())
  let w := v.unit u.2 (p.1.b, ())
  let c := v.cross w.2 (u.1, w.1, ())
  let n := v.unit c.2 (c.1, ())
  let x := v.cross n.2 (u.1, n.1, ())
  (⟨u.1, n.1, x.1⟩, x.2)
theorem frame150 (v : VOps) (b : Bool) (p : P2) : fnSum Try.prog { gam := gamV v } [] 20 150 [.ptr 0 0, .val (Cod.enc p)] (row 25 b) = some (.val (Cod.enc (frame v b (p, ())).1), row 25 (frame v b (p, ())).2) := by kernel_rfl
theorem frame151 (v : VOps) (b : Bool) (p : P2) : fnSum Try.prog { gam := gamV v } [] 20 151 [.ptr 0 0, .val (Cod.enc p)] (row 27 b) = some (.val (Cod.enc (frame v b (p, ())).1), row 27 (frame v b (p, ())).2) := by kernel_rfl
theorem ok150 : SumOk Try.prog 150 (S 25 (frame vopsF)) := S_ok gamV_ok 20 fun b a => frame150 vopsF b a.1
theorem ok151 : SumOk Try.prog 151 (S 27 (frame vopsF)) := S_ok gamV_ok 20 fun b a => frame151 vopsF b a.1
theorem awake95 (at' : Bool → P2 × P2 × Unit → V4 × Bool) (ap : Bool → V3 × V3 × Unit → Bool × Bool) :
    fnSum Try.prog { gam := [(98, S 25 at'), (96, S 25 ap)] } [] 50 95 [] [] =
      let q := at' false (⟨⟨1099511627776, 0, 0⟩, ⟨0, 1099511627776, 0⟩⟩, ⟨⟨1099511627776, 0, 0⟩, ⟨0, 1099511627776, 0⟩⟩, ())
      bif v4b q.1 ⟨0, 0, 0, 1099511627776⟩ then bif !q.2 then say (ap q.2 (⟨1099511627776, 0, 0⟩, ⟨0, 1099511627776, 0⟩, ())).1 else sayF else sayF := by kernel_rfl
end Go.Ab
/- The attitude of two pairs: trees. -/
namespace Go.Ab
open Go Go.Proofs
def M9.c0 (m : M9) : V3 := ⟨m.a.x, m.b.x, m.c.x⟩
def M9.c1 (m : M9) : V3 := ⟨m.a.y, m.b.y, m.c.y⟩
def M9.c2 (m : M9) : V3 := ⟨m.a.z, m.b.z, m.c.z⟩
def entP (o : Ops) (f : Bool) (x y : V3) : Int × Bool :=
  let m := o.mul f x.x y.x
  let a := o.add m.2 0 m.1
  let n := o.mul a.2 x.y y.y
  let b := o.add n.2 a.1 n.1
  let k := o.mul b.2 x.z y.z
  o.add k.2 b.1 k.1
def entR (o : Ops) (f : Bool) (x y : V3) : Int × Bool :=
  let m := o.mul f x.x y.x
  let n := o.mul m.2 x.y y.y
  let k := o.mul n.2 x.z y.z
  let b := o.add k.2 m.1 n.1
  o.add b.2 b.1 k.1
def rowBy (ent : Bool → V3 → V3 → Int × Bool) (x : V3) (s : M9) (f : Bool) : V3 × Bool := each3 f (fun b => ent b x s.c0) (fun b => ent b x s.c1) (fun b => ent b x s.c2)
def matBy (ent : Bool → V3 → V3 → Int × Bool) (t s : M9) (f : Bool) : M9 × Bool :=
  let a := rowBy ent t.c0 s f
  let b := rowBy ent t.c1 s a.2
  let c := rowBy ent t.c2 s b.2
  (⟨a.1, b.1, c.1⟩, c.2)
def attRest (ent : Bool → V3 → V3 → Int × Bool) (fr : Bool → P2 × Unit → M9 × Bool) (fm : Bool → M9 × Unit → V4 × Bool) (sky body : P2) (f : Bool) : V4 × Bool :=
  let s := fr f (sky, ())
  let t := fr s.2 (body, ())
  let m := matBy ent t.1 s.1 t.2
  fm m.2 (m.1, ())
theorem att98 (o : Ops) (ap : Bool → V3 × V3 × Unit → Bool × Bool) (fr : Bool → P2 × Unit → M9 × Bool) (fm : Bool → M9 × Unit → V4 × Bool) (b : Bool) (sky body : P2) :
    fnSum Try.prog { gam := (96, S 25 ap) :: (150, S 25 fr) :: (100, S 25 fm) :: gamN o } [] 20 98 [.ptr 0 0, .val (Cod.enc sky), .val (Cod.enc body)] (row 25 b) =
      let a := ap b (sky.a, sky.b, ()); let c := ap a.2 (body.a, body.b, ())
      bif !a.1 then sayR 25 (V4.zero, true) else bif !c.1 then sayR 25 (V4.zero, true) else sayR 25 (attRest (entP o) fr fm sky body c.2) := by kernel_rfl
theorem att99 (o : Ops) (ap : Bool → V3 × V3 × Unit → Bool × Bool) (fr : Bool → P2 × Unit → M9 × Bool) (fm : Bool → M9 × Unit → V4 × Bool) (b : Bool) (sky body : P2) :
    fnSum Try.prog { gam := (97, S 27 ap) :: (151, S 27 fr) :: (152, S 27 fm) :: gamN o } [] 20 99 [.ptr 0 0, .val (Cod.enc sky), .val (Cod.enc body)] (row 27 b) =
      let a := ap b (sky.a, sky.b, ()); let c := ap a.2 (body.a, body.b, ())
      bif !a.1 then sayR 27 (V4.zero, true) else bif !c.1 then sayR 27 (V4.zero, true) else sayR 27 (attRest (entR o) fr fm sky body c.2) := by kernel_rfl
end Go.Ab
