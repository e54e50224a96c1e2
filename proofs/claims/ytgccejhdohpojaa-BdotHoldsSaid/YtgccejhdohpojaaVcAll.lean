/- A part of the proofs: lemmas, no statement of their own; no condition. -/
import Derived.Test.YtgccejhdohpojaaFxAll
import Derived.Test.YtgccejhdohpojaaProg
import Derived.KernelRfl
namespace Go.Ab
open Go Go.Proofs
def gamA (o : Ops) : Gam := [(124, S 25 (op2 o.add)), (127, S 25 (op2 o.sub)), (125, S 27 (op2 o.add)), (128, S 27 (op2 o.sub))]
theorem awake03 : fnSum Try.prog {gam := []} [] 50 42 [] [] = some (.val (.bool true), []) := by kernel_rfl
theorem ok42 : SumOk Try.prog 42 (S0 fun (_ : Unit) => true) := S0_ok (E := { gam := [] }) GamOk.nil 50 fun _ => awake03
theorem add50 (o : Ops) (b : Bool) (u v : V3) : fnSum Try.prog {gam := gamA o} [] 20 50 [.ptr 0 0, .val (Cod.enc u), .val (Cod.enc v)] (row 25 b) =
    some (.val (Cod.enc (vop o.add b (u, v, ())).1), row 25 (vop o.add b (u, v, ())).2) := by
  refine Eq.trans (?_ : _ = bif (vop o.add b (u, v, ())).2 then some (.val (Cod.enc V3.zero), row 25 (vop o.add b (u, v, ())).2) else some (.val (Cod.enc (each3 b (fun b => o.add b u.x v.x) (fun b => o.add b u.y v.y) (fun b => o.add b u.z v.z)).1), row 25 (vop o.add b (u, v, ())).2)) pull
  kernel_rfl
theorem add51 (o : Ops) (b : Bool) (u v : V3) : fnSum Try.prog {gam := gamA o} [] 20 51 [.ptr 0 0, .val (Cod.enc u), .val (Cod.enc v)] (row 27 b) =
    some (.val (Cod.enc (vop o.add b (u, v, ())).1), row 27 (vop o.add b (u, v, ())).2) := by
  refine Eq.trans (?_ : _ = bif (vop o.add b (u, v, ())).2 then some (.val (Cod.enc V3.zero), row 27 (vop o.add b (u, v, ())).2) else some (.val (Cod.enc (each3 b (fun b => o.add b u.x v.x) (fun b => o.add b u.y v.y) (fun b => o.add b u.z v.z)).1), row 27 (vop o.add b (u, v, ())).2)) pull
  kernel_rfl
theorem sub52 (o : Ops) (b : Bool) (u v : V3) : fnSum Try.prog {gam := gamA o} [] 20 52 [.ptr 0 0, .val (Cod.enc u), .val (Cod.enc v)] (row 25 b) =
    some (.val (Cod.enc (vop o.sub b (u, v, ())).1), row 25 (vop o.sub b (u, v, ())).2) := by
  refine Eq.trans (?_ : _ = bif (vop o.sub b (u, v, ())).2 then some (.val (Cod.enc V3.zero), row 25 (vop o.sub b (u, v, ())).2) else some (.val (Cod.enc (each3 b (fun b => o.sub b u.x v.x) (fun b => o.sub b u.y v.y) (fun b => o.sub b u.z v.z)).1), row 25 (vop o.sub b (u, v, ())).2)) pull
  kernel_rfl
theorem sub53 (o : Ops) (b : Bool) (u v : V3) : fnSum Try.prog {gam := gamA o} [] 20 53 [.ptr 0 0, .val (Cod.enc u), .val (Cod.enc v)] (row 27 b) =
    some (.val (Cod.enc (vop o.sub b (u, v, ())).1), row 27 (vop o.sub b (u, v, ())).2) := by
  refine Eq.trans (?_ : _ = bif (vop o.sub b (u, v, ())).2 then some (.val (Cod.enc V3.zero), row 27 (vop o.sub b (u, v, ())).2) else some (.val (Cod.enc (each3 b (fun b => o.sub b u.x v.x) (fun b => o.sub b u.y v.y) (fun b => o.sub b u.z v.z)).1), row 27 (vop o.sub b (u, v, ())).2)) pull
  kernel_rfl
def gamVA (p q : Bool → V3 × V3 × Unit → V3 × Bool) : Gam := [(42, S0 fun (_ : Unit) => true), (50, S 25 p), (51, S 27 p), (52, S 25 q), (53, S 27 q)]
theorem sums6 (p q : Bool → V3 × V3 × Unit → V3 × Bool) (b : Bool) (x0 x1 x2 y0 y1 y2 : Int) :
    fnSum Try.prog {gam := gamVA p q} [] 20 6 (List.map AV.val [.agg #[.int .i64 x0, .int .i64 x1, .int .i64 x2], .agg #[.int .i64 y0, .int .i64 y1, .int .i64 y2], .bool b]) [] =
      bif v3b (p b (⟨x0, x1, x2⟩, ⟨y0, y1, y2⟩, ())).1 (p b (⟨x0, x1, x2⟩, ⟨y0, y1, y2⟩, ())).1 then
        bif (p b (⟨x0, x1, x2⟩, ⟨y0, y1, y2⟩, ())).2 == (p b (⟨x0, x1, x2⟩, ⟨y0, y1, y2⟩, ())).2 then
          bif v3b (q b (⟨x0, x1, x2⟩, ⟨y0, y1, y2⟩, ())).1 (q b (⟨x0, x1, x2⟩, ⟨y0, y1, y2⟩, ())).1 then say ((q b (⟨x0, x1, x2⟩, ⟨y0, y1, y2⟩, ())).2 == (q b (⟨x0, x1, x2⟩, ⟨y0, y1, y2⟩, ())).2) else sayF
        else sayF
      else sayF := by kernel_rfl
def ops0 : Ops := { add := fadd, sub := fsub, mul := fun _ _ _ => (0, true), div := fun _ _ _ => (0, true), mod := fun _ _ _ => (0, true), part := fun _ _ _ _ => (0, true), norm := fun _ _ _ _ => (0, true), sqrt := fun _ _ => (0, true) }
theorem gamA_ok : GamOk Try.prog (gamA ops0) := .cons ok124 (.cons ok127 (.cons ok125 (.cons ok128 .nil)))
theorem VecSums_calls (x0 x1 x2 y0 y1 y2 : Int) (b : Bool) (w : World) :
    Calls Try.prog 6 #[.agg #[.int .i64 x0, .int .i64 x1, .int .i64 x2], .agg #[.int .i64 y0, .int .i64 y1, .int .i64 y2], .bool b] w fun e w' => e = .returned (.bool true) ∧ RowKit.Below w.heap.size w w' := by
  have h50 : SumOk Try.prog 50 (S 25 (vop fadd)) := S_ok gamA_ok 20 fun b a => add50 ops0 b a.1 a.2.1
  have h51 : SumOk Try.prog 51 (S 27 (vop fadd)) := S_ok gamA_ok 20 fun b a => add51 ops0 b a.1 a.2.1
  have h52 : SumOk Try.prog 52 (S 25 (vop fsub)) := S_ok gamA_ok 20 fun b a => sub52 ops0 b a.1 a.2.1
  have h53 : SumOk Try.prog 53 (S 27 (vop fsub)) := S_ok gamA_ok 20 fun b a => sub53 ops0 b a.1 a.2.1
  have hG : GamOk Try.prog (gamVA (vop fadd) (vop fsub)) := .cons ok42 (.cons h50 (.cons h51 (.cons h52 (.cons h53 .nil))))
  refine calls_of_sum (E := { gam := gamVA (vop fadd) (vop fsub) }) hG (d := 20) (f := 6) (vals := [.agg #[.int .i64 x0, .int .i64 x1, .int .i64 x2], .agg #[.int .i64 y0, .int .i64 y1, .int .i64 y2], .bool b]) ?_ w
  rw [sums6]
  simp [v3b_self, say]
end Go.Ab
namespace Go.Ab
open Go Go.Proofs
def vscale (g : Bool → Int → Int → Int × Bool) (b : Bool) (p : V3 × Int × Unit) : V3 × Bool :=
  done3 (each3 b (fun b => g b p.1.x p.2.1) (fun b => g b p.1.y p.2.1) (fun b => g b p.1.z p.2.1))
theorem scale44 (g : Bool → Int → Int → Int × Bool) (b : Bool) (u : V3) (k : Int) : fnSum Try.prog { gam := [(121, S 25 (op2 g))] } [] 20 44 [.ptr 0 0, .val (Cod.enc u), .val (.int .i64 k)] (row 25 b) =
    some (.val (Cod.enc (vscale g b (u, k, ())).1), row 25 (vscale g b (u, k, ())).2) := by
  refine Eq.trans (?_ : _ = bif (vscale g b (u, k, ())).2 then some (.val (Cod.enc V3.zero), row 25 (vscale g b (u, k, ())).2) else some (.val (Cod.enc (each3 b (fun b => g b u.x k) (fun b => g b u.y k) (fun b => g b u.z k)).1), row 25 (vscale g b (u, k, ())).2)) pull
  kernel_rfl
theorem scale45 (g : Bool → Int → Int → Int × Bool) (b : Bool) (u : V3) (k : Int) : fnSum Try.prog { gam := [(122, S 27 (op2 g))] } [] 20 45 [.ptr 0 0, .val (Cod.enc u), .val (.int .i64 k)] (row 27 b) =
    some (.val (Cod.enc (vscale g b (u, k, ())).1), row 27 (vscale g b (u, k, ())).2) := by
  refine Eq.trans (?_ : _ = bif (vscale g b (u, k, ())).2 then some (.val (Cod.enc V3.zero), row 27 (vscale g b (u, k, ())).2) else some (.val (Cod.enc (each3 b (fun b => g b u.x k) (fun b => g b u.y k) (fun b => g b u.z k)).1), row 27 (vscale g b (u, k, ())).2)) pull
  kernel_rfl
theorem scale4 (p : Bool → V3 × Int × Unit → V3 × Bool) (b : Bool) (x0 x1 x2 k : Int) :
    fnSum Try.prog { gam := [(42, S0 fun (_ : Unit) => true), (44, S 25 p), (45, S 27 p)] } [] 20 4 (List.map AV.val [.agg #[.int .i64 x0, .int .i64 x1, .int .i64 x2], .int .i64 k, .bool b]) [] =
      bif v3b (p b (⟨x0, x1, x2⟩, k, ())).1 (p b (⟨x0, x1, x2⟩, k, ())).1 then say ((p b (⟨x0, x1, x2⟩, k, ())).2 == (p b (⟨x0, x1, x2⟩, k, ())).2) else sayF := by kernel_rfl
theorem ok44 : SumOk Try.prog 44 (S 25 (vscale fmul)) := S_ok (E := { gam := [(121, S 25 (op2 fmul))] }) (.cons ok121 .nil) 20 fun b a => scale44 fmul b a.1 a.2.1
theorem ok45 : SumOk Try.prog 45 (S 27 (vscale fmul)) := S_ok (E := { gam := [(122, S 27 (op2 fmul))] }) (.cons ok122 .nil) 20 fun b a => scale45 fmul b a.1 a.2.1
theorem VecScale_calls (x0 x1 x2 k : Int) (b : Bool) (w : World) :
    Calls Try.prog 4 #[.agg #[.int .i64 x0, .int .i64 x1, .int .i64 x2], .int .i64 k, .bool b] w fun e w' => e = .returned (.bool true) ∧ RowKit.Below w.heap.size w w' := by
  have hG : GamOk Try.prog [(42, S0 fun (_ : Unit) => true), (44, S 25 (vscale fmul)), (45, S 27 (vscale fmul))] := .cons ok42 (.cons ok44 (.cons ok45 .nil))
  refine calls_of_sum (E := { gam := [(42, S0 fun (_ : Unit) => true), (44, S 25 (vscale fmul)), (45, S 27 (vscale fmul))] }) hG (d := 20) (f := 4) (vals := [.agg #[.int .i64 x0, .int .i64 x1, .int .i64 x2], .int .i64 k, .bool b]) ?_ w
  rw [scale4]
  simp [v3b_self, say]
end Go.Ab
namespace Go.Ab
open Go Go.Proofs
/-- An operation that a bad flow stills, and that makes the flow bad where it has no answer. -/
def lift2 (g : Int → Int → Option Int) (b : Bool) (x y : Int) : Int × Bool := match b, g x y with | false, some v => (v, false) | _, _ => (0, true)
theorem lift2_bad (g : Int → Int → Option Int) (x y : Int) : lift2 g true x y = (0, true) := rfl
def vdotP (o : Ops) (b : Bool) (p : V3 × V3 × Unit) : Int × Bool :=
  let x := o.mul b p.1.x p.2.1.x
  let y := o.mul x.2 p.1.y p.2.1.y
  let s := o.add y.2 x.1 y.1
  let z := o.mul s.2 p.1.z p.2.1.z
  o.add z.2 s.1 z.1
def vdotR (o : Ops) (b : Bool) (p : V3 × V3 × Unit) : Int × Bool :=
  let x := o.mul b p.1.x p.2.1.x
  let y := o.mul x.2 p.1.y p.2.1.y
  let z := o.mul y.2 p.1.z p.2.1.z
  let s := o.add z.2 x.1 y.1
  o.add s.2 s.1 z.1
/-- A bad flow stills it. -/
def Stills (g : Bool → Int → Int → Int × Bool) : Prop := ∀ x y, g true x y = (0, true)
theorem vdot_eq {o : Ops} (ha : Stills o.add) (hm : Stills o.mul) (b : Bool) (p : V3 × V3 × Unit) : vdotP o b p = vdotR o b p := by
  obtain ⟨u, v, _⟩ := p
  unfold vdotP vdotR
  dsimp only
  cases b
  · rcases h1 : o.mul false u.x v.x with ⟨x, f1⟩
    cases f1
    · rcases h2 : o.mul false u.y v.y with ⟨y, f2⟩
      cases f2
      · rcases h3 : o.mul false u.z v.z with ⟨z, f3⟩
        rcases h4 : o.add false x y with ⟨s, f4⟩
        cases f3 <;> cases f4 <;> simp [h3, h4, ha _ _, hm _ _]
      · simp [ha _ _, hm _ _]
    · simp [ha _ _, hm _ _]
  · simp [ha _ _, hm _ _]
def gamF (o : Ops) : Gam := [(124, S 25 (op2 o.add)), (127, S 25 (op2 o.sub)), (125, S 27 (op2 o.add)), (128, S 27 (op2 o.sub)), (121, S 25 (op2 o.mul)), (122, S 27 (op2 o.mul))]
theorem dot46 (o : Ops) (b : Bool) (u v : V3) : fnSum Try.prog { gam := gamF o } [] 20 46 [.ptr 0 0, .val (Cod.enc u), .val (Cod.enc v)] (row 25 b) = some (.val (Cod.enc (vdotP o b (u, v, ())).1), row 25 (vdotP o b (u, v, ())).2) := by kernel_rfl
theorem dot47 (o : Ops) (b : Bool) (u v : V3) : fnSum Try.prog { gam := gamF o } [] 20 47 [.ptr 0 0, .val (Cod.enc u), .val (Cod.enc v)] (row 27 b) = some (.val (Cod.enc (vdotR o b (u, v, ())).1), row 27 (vdotR o b (u, v, ())).2) := by kernel_rfl
def crossPart (o : Ops) (a b c d : Int) (f : Bool) : Int × Bool :=
  o.sub (o.mul (o.mul f a b).2 c d).2 (o.mul f a b).1 (o.mul (o.mul f a b).2 c d).1
def vcross0 (o : Ops) (f : Bool) (u v : V3) : V3 × Bool := each3 f (crossPart o u.y v.z u.z v.y) (crossPart o u.z v.x u.x v.z) (crossPart o u.x v.y u.y v.x)
def vcross (o : Ops) (f : Bool) (p : V3 × V3 × Unit) : V3 × Bool := done3 (vcross0 o f p.1 p.2.1)
theorem cross48 (o : Ops) (b : Bool) (u v : V3) : fnSum Try.prog { gam := gamF o } [] 20 48 [.ptr 0 0, .val (Cod.enc u), .val (Cod.enc v)] (row 25 b) = some (.val (Cod.enc (vcross o b (u, v, ())).1), row 25 (vcross o b (u, v, ())).2) := by
  refine Eq.trans (?_ : _ = bif (vcross o b (u, v, ())).2 then some (.val (Cod.enc V3.zero), row 25 (vcross o b (u, v, ())).2) else some (.val (Cod.enc (vcross0 o b u v).1), row 25 (vcross o b (u, v, ())).2)) pull
  kernel_rfl
theorem cross49 (o : Ops) (b : Bool) (u v : V3) : fnSum Try.prog { gam := gamF o } [] 20 49 [.ptr 0 0, .val (Cod.enc u), .val (Cod.enc v)] (row 27 b) = some (.val (Cod.enc (vcross o b (u, v, ())).1), row 27 (vcross o b (u, v, ())).2) := by
  refine Eq.trans (?_ : _ = bif (vcross o b (u, v, ())).2 then some (.val (Cod.enc V3.zero), row 27 (vcross o b (u, v, ())).2) else some (.val (Cod.enc (vcross0 o b u v).1), row 27 (vcross o b (u, v, ())).2)) pull
  kernel_rfl
theorem products5 (p : Bool → V3 × V3 × Unit → Int × Bool) (q : Bool → V3 × V3 × Unit → V3 × Bool) (b : Bool) (x0 x1 x2 y0 y1 y2 : Int) :
    fnSum Try.prog { gam := [(42, S0 fun (_ : Unit) => true), (46, S 25 p), (47, S 27 p), (48, S 25 q), (49, S 27 q)] } [] 20 5 (List.map AV.val [.agg #[.int .i64 x0, .int .i64 x1, .int .i64 x2], .agg #[.int .i64 y0, .int .i64 y1, .int .i64 y2], .bool b]) [] =
      bif (p b (⟨x0, x1, x2⟩, ⟨y0, y1, y2⟩, ())).1 == (p b (⟨x0, x1, x2⟩, ⟨y0, y1, y2⟩, ())).1 then
        bif (p b (⟨x0, x1, x2⟩, ⟨y0, y1, y2⟩, ())).2 == (p b (⟨x0, x1, x2⟩, ⟨y0, y1, y2⟩, ())).2 then
          bif v3b (q b (⟨x0, x1, x2⟩, ⟨y0, y1, y2⟩, ())).1 (q b (⟨x0, x1, x2⟩, ⟨y0, y1, y2⟩, ())).1 then say ((q b (⟨x0, x1, x2⟩, ⟨y0, y1, y2⟩, ())).2 == (q b (⟨x0, x1, x2⟩, ⟨y0, y1, y2⟩, ())).2) else sayF
        else sayF
      else sayF := by kernel_rfl
def opsM : Ops := { add := fadd, sub := fsub, mul := fmul, div := fdiv, mod := fun _ _ _ => (0, true), part := fpart, norm := fun _ _ _ _ => (0, true), sqrt := fun _ _ => (0, true) }
theorem gamF_ok : GamOk Try.prog (gamF opsM) := .cons ok124 (.cons ok127 (.cons ok125 (.cons ok128 (.cons ok121 (.cons ok122 .nil)))))
theorem fadd_stills : Stills fadd := fun _ _ => rfl
theorem fsub_stills : Stills fsub := fun _ _ => rfl
theorem fmul_stills : Stills fmul := fun _ _ => rfl
theorem fdiv_stills : Stills fdiv := fun _ _ => rfl
theorem ok46 : SumOk Try.prog 46 (S 25 (vdotP opsM)) := S_ok gamF_ok 20 fun b a => dot46 opsM b a.1 a.2.1
theorem ok47 : SumOk Try.prog 47 (S 27 (vdotP opsM)) := by
  rw [show vdotP opsM = vdotR opsM from funext fun b => funext fun p => vdot_eq (o := opsM) fadd_stills fmul_stills b p]
  exact S_ok gamF_ok 20 fun b a => dot47 opsM b a.1 a.2.1
theorem ok48 : SumOk Try.prog 48 (S 25 (vcross opsM)) := S_ok gamF_ok 20 fun b a => cross48 opsM b a.1 a.2.1
theorem ok49 : SumOk Try.prog 49 (S 27 (vcross opsM)) := S_ok gamF_ok 20 fun b a => cross49 opsM b a.1 a.2.1
theorem VecProducts_calls (x0 x1 x2 y0 y1 y2 : Int) (b : Bool) (w : World) :
    Calls Try.prog 5 #[.agg #[.int .i64 x0, .int .i64 x1, .int .i64 x2], .agg #[.int .i64 y0, .int .i64 y1, .int .i64 y2], .bool b] w fun e w' => e = .returned (.bool true) ∧ RowKit.Below w.heap.size w w' := by
  have hG : GamOk Try.prog [(42, S0 fun (_ : Unit) => true), (46, S 25 (vdotP opsM)), (47, S 27 (vdotP opsM)), (48, S 25 (vcross opsM)), (49, S 27 (vcross opsM))] := .cons ok42 (.cons ok46 (.cons ok47 (.cons ok48 (.cons ok49 .nil))))
  refine calls_of_sum (E := { gam := [(42, S0 fun (_ : Unit) => true), (46, S 25 (vdotP opsM)), (47, S 27 (vdotP opsM)), (48, S 25 (vcross opsM)), (49, S 27 (vcross opsM))] }) hG (d := 20) (f := 5) (vals := [.agg #[.int .i64 x0, .int .i64 x1, .int .i64 x2], .agg #[.int .i64 y0, .int .i64 y1, .int .i64 y2], .bool b]) ?_ w
  rw [products5]
  simp [v3b_self, say]
end Go.Ab
/- All operations of the numbers, in both packages; lengths and units of vectors. -/
namespace Go.Ab
open Go Go.Proofs
def opsF : Ops := { add := fadd, sub := fsub, mul := fmul, div := fdiv, mod := fmod, part := fpart, norm := fnorm, sqrt := fsqrt }
def gamN (o : Ops) : Gam := [(124, S 25 (op2 o.add)), (127, S 25 (op2 o.sub)), (121, S 25 (op2 o.mul)), (135, S 25 (op2 o.div)), (56, S 25 (op2 o.mod)), (116, S 25 (op3 o.part)), (141, S 25 (op3 o.norm)), (137, S 25 (op1 o.sqrt)), (115, S 25 failV),
  (125, S 27 (op2 o.add)), (128, S 27 (op2 o.sub)), (122, S 27 (op2 o.mul)), (140, S 27 (op2 o.div)), (131, S 27 (op2 o.mod)), (118, S 27 (op3 o.part)), (142, S 27 (op3 o.norm)), (139, S 27 (op1 o.sqrt)), (117, S 27 failV)]
theorem gamN_ok : GamOk Try.prog (gamN opsF) :=
  .cons ok124 (.cons ok127 (.cons ok121 (.cons ok135 (.cons ok56 (.cons ok116 (.cons ok141 (.cons ok137 (.cons ok115
  (.cons ok125 (.cons ok128 (.cons ok122 (.cons ok140 (.cons ok131 (.cons ok118 (.cons ok142 (.cons ok139 (.cons ok117 .nil)))))))))))))))))
end Go.Ab
/- Lengths and units of vectors, and how far two are apart. -/
namespace Go.Ab
open Go Go.Proofs
theorem pull2 {ω : Type} [Cod ω] {c g : Bool} {F : Bool → ω × Bool} {e : TypeId} : (bif c then some (AV.val (Cod.enc (F true).1), row e (F true).2) else some (AV.val (Cod.enc (F g).1), row e (F g).2)) =
    some (AV.val (Cod.enc (F (bif c then true else g)).1), row e (F (bif c then true else g)).2) := by cases c <;> rfl
def vnorm (o : Ops) (b : Bool) (p : V3 × Unit) : Int × Bool := o.norm b p.1.x p.1.y p.1.z
def vunit0 (o : Ops) (u : V3) (n : Int) (f : Bool) : V3 × Bool := each3 f (fun b => o.div b u.x n) (fun b => o.div b u.y n) (fun b => o.div b u.z n)
def vunitN (o : Ops) (u : V3) (n : Int) (f : Bool) : V3 × Bool := done3 (vunit0 o u n f)
def vunit (o : Ops) (b : Bool) (p : V3 × Unit) : V3 × Bool :=
  vunitN o p.1 (vnorm o b p).1 (bif decide ((vnorm o b p).1 < 1048576) then true else (vnorm o b p).2)
theorem norm66 (o : Ops) (b : Bool) (u : V3) : fnSum Try.prog { gam := gamN o } [] 20 66 [.ptr 0 0, .val (Cod.enc u)] (row 25 b) = some (.val (Cod.enc (vnorm o b (u, ())).1), row 25 (vnorm o b (u, ())).2) := by kernel_rfl
theorem norm67 (o : Ops) (b : Bool) (u : V3) : fnSum Try.prog { gam := gamN o } [] 20 67 [.ptr 0 0, .val (Cod.enc u)] (row 27 b) = some (.val (Cod.enc (vnorm o b (u, ())).1), row 27 (vnorm o b (u, ())).2) := by kernel_rfl
def unitT (o : Ops) (e : TypeId) (u : V3) (n : Int) (f : Bool) : Option (AV × List Con) :=
  bif (vunitN o u n f).2 then some (.val (Cod.enc V3.zero), row e (vunitN o u n f).2) else some (.val (Cod.enc (vunit0 o u n f).1), row e (vunitN o u n f).2)
theorem unitT_eq (o : Ops) (e : TypeId) (u : V3) (n : Int) (f : Bool) : unitT o e u n f = some (.val (Cod.enc (vunitN o u n f).1), row e (vunitN o u n f).2) := pull
theorem unit68 (o : Ops) (b : Bool) (u : V3) : fnSum Try.prog { gam := gamN o } [] 20 68 [.ptr 0 0, .val (Cod.enc u)] (row 25 b) = some (.val (Cod.enc (vunit o b (u, ())).1), row 25 (vunit o b (u, ())).2) := by
  refine Eq.trans (?_ : _ = bif decide ((vnorm o b (u, ())).1 < 1048576) then unitT o 25 u (vnorm o b (u, ())).1 true else unitT o 25 u (vnorm o b (u, ())).1 (vnorm o b (u, ())).2) ?_
  · kernel_rfl
  · rw [unitT_eq, unitT_eq]; exact pull2
theorem unit69 (o : Ops) (b : Bool) (u : V3) : fnSum Try.prog { gam := gamN o } [] 20 69 [.ptr 0 0, .val (Cod.enc u)] (row 27 b) = some (.val (Cod.enc (vunit o b (u, ())).1), row 27 (vunit o b (u, ())).2) := by
  refine Eq.trans (?_ : _ = bif decide ((vnorm o b (u, ())).1 < 1048576) then unitT o 27 u (vnorm o b (u, ())).1 true else unitT o 27 u (vnorm o b (u, ())).1 (vnorm o b (u, ())).2) ?_
  · kernel_rfl
  · rw [unitT_eq, unitT_eq]; exact pull2
theorem ok66 : SumOk Try.prog 66 (S 25 (vnorm opsF)) := S_ok gamN_ok 20 fun b a => norm66 opsF b a.1
theorem ok67 : SumOk Try.prog 67 (S 27 (vnorm opsF)) := S_ok gamN_ok 20 fun b a => norm67 opsF b a.1
theorem ok68 : SumOk Try.prog 68 (S 25 (vunit opsF)) := S_ok gamN_ok 20 fun b a => unit68 opsF b a.1
theorem ok69 : SumOk Try.prog 69 (S 27 (vunit opsF)) := S_ok gamN_ok 20 fun b a => unit69 opsF b a.1
/-- The operations of vectors, as variables. -/
structure VOps where
  add : Bool → V3 × V3 × Unit → V3 × Bool
  sub : Bool → V3 × V3 × Unit → V3 × Bool
  scale : Bool → V3 × Int × Unit → V3 × Bool
  cross : Bool → V3 × V3 × Unit → V3 × Bool
  dot : Bool → V3 × V3 × Unit → Int × Bool
  norm : Bool → V3 × Unit → Int × Bool
  unit : Bool → V3 × Unit → V3 × Bool
def gamV (v : VOps) : Gam := [(50, S 25 v.add), (52, S 25 v.sub), (44, S 25 v.scale), (48, S 25 v.cross), (46, S 25 v.dot), (66, S 25 v.norm), (68, S 25 v.unit),
  (51, S 27 v.add), (53, S 27 v.sub), (45, S 27 v.scale), (49, S 27 v.cross), (47, S 27 v.dot), (67, S 27 v.norm), (69, S 27 v.unit)]
def vopsF : VOps := { add := vop fadd, sub := vop fsub, scale := vscale fmul, cross := vcross opsM, dot := vdotP opsM, norm := vnorm opsF, unit := vunit opsF }
theorem ok50 : SumOk Try.prog 50 (S 25 (vop fadd)) := S_ok gamA_ok 20 fun b a => add50 ops0 b a.1 a.2.1
theorem ok51 : SumOk Try.prog 51 (S 27 (vop fadd)) := S_ok gamA_ok 20 fun b a => add51 ops0 b a.1 a.2.1
theorem ok52 : SumOk Try.prog 52 (S 25 (vop fsub)) := S_ok gamA_ok 20 fun b a => sub52 ops0 b a.1 a.2.1
theorem ok53 : SumOk Try.prog 53 (S 27 (vop fsub)) := S_ok gamA_ok 20 fun b a => sub53 ops0 b a.1 a.2.1
theorem gamV_ok : GamOk Try.prog (gamV vopsF) :=
  .cons ok50 (.cons ok52 (.cons ok44 (.cons ok48 (.cons ok46 (.cons ok66 (.cons ok68 (.cons ok51 (.cons ok53 (.cons ok45 (.cons ok49 (.cons ok47 (.cons ok67 (.cons ok69 .nil)))))))))))))
def vpartsAt (v : VOps) (x y : V3) (b : Bool) : Two Int Int × Bool :=
  (⟨(v.norm (v.cross b (x, y, ())).2 ((v.cross b (x, y, ())).1, ())).1, (v.dot (v.norm (v.cross b (x, y, ())).2 ((v.cross b (x, y, ())).1, ())).2 (x, y, ())).1⟩,
   (v.dot (v.norm (v.cross b (x, y, ())).2 ((v.cross b (x, y, ())).1, ())).2 (x, y, ())).2)
def vparts0 (v : VOps) (b : Bool) (p : V3 × V3 × Unit) : Two Int Int × Bool :=
  vpartsAt v (v.unit b (p.1, ())).1 (v.unit (v.unit b (p.1, ())).2 (p.2.1, ())).1 (v.unit (v.unit b (p.1, ())).2 (p.2.1, ())).2
def vparts (v : VOps) (b : Bool) (p : V3 × V3 × Unit) : Two Int Int × Bool := (bif (vparts0 v b p).2 then ⟨0, 0⟩ else (vparts0 v b p).1, (vparts0 v b p).2)
theorem parts74 (v : VOps) (b : Bool) (x y : V3) : fnSum Try.prog { gam := gamV v } [] 20 74 [.ptr 0 0, .val (Cod.enc x), .val (Cod.enc y)] (row 25 b) = some (.val (Cod.enc (vparts v b (x, y, ())).1), row 25 (vparts v b (x, y, ())).2) := by
  refine Eq.trans (?_ : _ = bif (vparts0 v b (x, y, ())).2 then some (.val (Cod.enc (Two.mk (0 : Int) (0 : Int))), row 25 (vparts0 v b (x, y, ())).2) else some (.val (Cod.enc (vparts0 v b (x, y, ())).1), row 25 (vparts0 v b (x, y, ())).2)) pull
  kernel_rfl
theorem parts75 (v : VOps) (b : Bool) (x y : V3) : fnSum Try.prog { gam := gamV v } [] 20 75 [.ptr 0 0, .val (Cod.enc x), .val (Cod.enc y)] (row 27 b) = some (.val (Cod.enc (vparts v b (x, y, ())).1), row 27 (vparts v b (x, y, ())).2) := by
  refine Eq.trans (?_ : _ = bif (vparts0 v b (x, y, ())).2 then some (.val (Cod.enc (Two.mk (0 : Int) (0 : Int))), row 27 (vparts0 v b (x, y, ())).2) else some (.val (Cod.enc (vparts0 v b (x, y, ())).1), row 27 (vparts0 v b (x, y, ())).2)) pull
  kernel_rfl
theorem ok74 : SumOk Try.prog 74 (S 25 (vparts vopsF)) := S_ok gamV_ok 20 fun b a => parts74 vopsF b a.1 a.2.1
theorem ok75 : SumOk Try.prog 75 (S 27 (vparts vopsF)) := S_ok gamV_ok 20 fun b a => parts75 vopsF b a.1 a.2.1
end Go.Ab
