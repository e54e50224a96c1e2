/- A part of the proofs: lemmas, no statement of their own; no condition. -/
import Derived.Test.YtoocjipllmkjcaaGreatGLvSums
import Derived.Test.YtoocjipllmkjcaaGreatGAbU
namespace Go.Ab
open Go Go.Proofs
structure Orb where
  a : Int
  e : Int
  i : Int
  node : Int
  peri : Int
  m : Int
  tk : Int
instance : Cod Orb where
  enc o:=.agg #[.int .i64 o.a,.int .i64 o.e,.int .i64 o.i,.int .i64 o.node,.int .i64 o.peri,.int .i64 o.m,.int .i64 o.tk]
  dec v:=match v with | .agg ⟨[.int .i64 a,.int .i64 e,.int .i64 i,.int .i64 node,.int .i64 peri,.int .i64 m,.int .i64 tk]⟩=>some ⟨a,e,i,node,peri,m,tk⟩ | _=>none
  law v a h:=by split at h <;> simp_all; subst h; simp
def kepStep (o : Ops) (sn cs : Bool→Int × Unit→Int × Bool) (e m : Int) (z : Int × Bool) : Int × Bool :=
  let s:=sn z.2 (z.1,())
  let p:=o.mul s.2 e s.1
  let q:=o.sub p.2 z.1 p.1
  let v:=o.sub q.2 q.1 m
  let c:=cs v.2 (z.1,())
  let r:=o.mul c.2 e c.1
  let t:=o.sub r.2 1099511627776 r.1
  let d:=o.div t.2 v.1 t.1
  o.sub d.2 z.1 d.1
def kepN (o : Ops) (sn cs : Bool→Int × Unit→Int × Bool) (e m : Int) : Nat→Int × Bool→Int × Bool
  | 0,z=>z
  | n + 1,z=>kepN o sn cs e m n (kepStep o sn cs e m z)
def kepF (o : Ops) (sn cs : Bool→Int × Unit→Int × Bool) (p : Int × Int × Unit) (b : Bool) : Int × Bool:=kepN o sn cs p.2.1 p.1 6 (o.add b p.1 0)
def gamS (o : Ops) (sn cs : Bool→Int × Unit→Int × Bool) : Gam:=(214,S 57 sn) :: (215,S 57 cs) :: (183,S 59 sn) :: (184,S 59 cs) :: gamN o
theorem kep216 (o : Ops) (sn cs : Bool→Int × Unit→Int × Bool) (b : Bool) (m e : Int) : fnSum Tryz.prog { gam:=gamS o sn cs } [] 20 216 [.ptr 0 0,.val (.int .i64 m),.val (.int .i64 e)] (row 57 b) =
    bif decide (e < 0) then some (.val (Cod.enc (kepF o sn cs (m,e,()) true).1),row 57 (kepF o sn cs (m,e,()) true).2) else bif decide (e > 109951162777) then some (.val (Cod.enc (kepF o sn cs (m,e,()) true).1),row 57 (kepF o sn cs (m,e,()) true).2) else some (.val (Cod.enc (kepF o sn cs (m,e,()) b).1),row 57 (kepF o sn cs (m,e,()) b).2):=by kernel_rfl
theorem kep186 (o : Ops) (sn cs : Bool→Int × Unit→Int × Bool) (b : Bool) (m e : Int) : fnSum Tryz.prog { gam:=gamS o sn cs } [] 20 186 [.ptr 0 0,.val (.int .i64 m),.val (.int .i64 e)] (row 59 b) =
    bif decide (e < 0) then some (.val (Cod.enc (kepF o sn cs (m,e,()) true).1),row 59 (kepF o sn cs (m,e,()) true).2) else bif decide (e > 109951162777) then some (.val (Cod.enc (kepF o sn cs (m,e,()) true).1),row 59 (kepF o sn cs (m,e,()) true).2) else some (.val (Cod.enc (kepF o sn cs (m,e,()) b).1),row 59 (kepF o sn cs (m,e,()) b).2):=by kernel_rfl
theorem pull3 {ω : Type} [Cod ω] {c d b : Bool} {F : Bool→ω × Bool} {e : TypeId} : (bif c then some (AV.val (Cod.enc (F true).1),row e (F true).2) else bif d then some (AV.val (Cod.enc (F true).1),row e (F true).2) else some (AV.val (Cod.enc (F b).1),row e (F b).2)) =
    some (AV.val (Cod.enc (F (bif c then true else bif d then true else b)).1),row e (F (bif c then true else bif d then true else b)).2):=by cases c <;> cases d <;> rfl
def kepO (o : Ops) (sn cs : Bool→Int × Unit→Int × Bool) (b : Bool) (p : Int × Int × Unit) : Int × Bool:=kepF o sn cs p (bif decide (p.2.1 < 0) then true else bif decide (p.2.1 > 109951162777) then true else b)
def sinV (b : Bool) (p : Int × Unit) : Int × Bool:=sinF b p.1
def cosV (b : Bool) (p : Int × Unit) : Int × Bool:=cosF b p.1
theorem gamS_ok : GamOk Tryz.prog (gamS opsF sinV cosV):=.cons okSin (.cons okCos (.cons okSinR (.cons okCosR gamN_ok)))
def kepV : Bool→Int × Int × Unit→Int × Bool:=kepO opsF sinV cosV
theorem okKep : SumOk Tryz.prog 216 (S 57 kepV):=S_ok gamS_ok 20 fun b a=>(kep216 opsF sinV cosV b a.1 a.2.1).trans (pull3 (F:=kepF opsF sinV cosV a))
theorem okKepR : SumOk Tryz.prog 186 (S 59 kepV):=S_ok gamS_ok 20 fun b a=>(kep186 opsF sinV cosV b a.1 a.2.1).trans (pull3 (F:=kepF opsF sinV cosV a))
def aboutO (o : Ops) (sn cs : Bool→Int × Unit→Int × Bool) (b : Bool) (p : Int × Int × Int × Unit) : Two Int Int × Bool :=
  let c:=cs b (p.2.2.1,())
  let s:=sn c.2 (p.2.2.1,())
  let uc:=o.mul s.2 p.1 c.1
  let vs:=o.mul uc.2 p.2.1 s.1
  let x:=o.sub vs.2 uc.1 vs.1
  let us:=o.mul x.2 p.1 s.1
  let vc:=o.mul us.2 p.2.1 c.1
  let y:=o.add vc.2 us.1 vc.1
  (⟨x.1,y.1⟩,y.2)
theorem about218 (o : Ops) (sn cs : Bool→Int × Unit→Int × Bool) (b : Bool) (u v a : Int) : fnSum Tryz.prog { gam:=gamS o sn cs } [] 20 218 [.ptr 0 0,.val (.int .i64 u),.val (.int .i64 v),.val (.int .i64 a)] (row 57 b) =
    some (.val (Cod.enc (aboutO o sn cs b (u,v,a,())).1),row 57 (aboutO o sn cs b (u,v,a,())).2):=by kernel_rfl
def aboutV : Bool→Int × Int × Int × Unit→Two Int Int × Bool:=aboutO opsF sinV cosV
theorem okAbout : SumOk Tryz.prog 218 (S 57 aboutV):=S_ok gamS_ok 20 fun b a=>about218 opsF sinV cosV b a.1 a.2.1 a.2.2.1
end Go.Ab
namespace Go.Ab
open Go Go.Proofs
theorem r212 (mu : Bool→Int × Int × Unit→Int × Bool) (rt : Int × Unit→Bool) (a e i n p m t : Int) : fnSum Tryz.prog { gam:=[(87,S0 rt),(64,S 57 mu)] } [] 20 212 [.val (.agg #[.int .i64 a,.int .i64 e,.int .i64 i,.int .i64 n,.int .i64 p,.int .i64 m,.int .i64 t])] [] = (bif decide (n < -6908435304716) then some (AV.val (Value.bool false),[]) else bif bif false then true else decide (n > 6908435304716) then some (AV.val (Value.bool false),[]) else bif decide (p < -6908435304716) then some (AV.val (Value.bool false),[]) else bif bif false then true else decide (p > 6908435304716) then some (AV.val (Value.bool false),[]) else bif decide (m < -6908435304716) then some (AV.val (Value.bool false),[]) else bif bif false then true else decide (m > 6908435304716) then some (AV.val (Value.bool false),[]) else bif decide (e < 0) then some (AV.val (Value.bool false),[]) else bif bif false then true else decide (e > 109951162777) then some (AV.val (Value.bool false),[]) else bif bif false then true else decide (i < 0) then some (AV.val (Value.bool false),[]) else bif bif false then true else decide (i > 3454217652358) then some (AV.val (Value.bool false),[]) else bif bif false then true else !rt (t,()) then some (AV.val (Value.bool false),[]) else bif decide ((mu false (a,IntKind.i64.wrap (1099511627776 - e),())).fst ≥ 7232738120604) then bif bif true then decide ((mu (mu false (a,IntKind.i64.wrap (1099511627776 - e),())).snd (a,IntKind.i64.wrap (1099511627776 + e),())).fst ≤ 9211859050600) else false then some (AV.val (Value.bool (bif true then !(mu (mu false (a,IntKind.i64.wrap (1099511627776 - e),())).snd (a,IntKind.i64.wrap (1099511627776 + e),())).snd else false)),[]) else some (AV.val (Value.bool false),[]) else some (AV.val (Value.bool false),[])):=by kernel_rfl
theorem r233 (a : Int) : fnSum Tryz.prog { gam:=[] } [] 20 233 [.val (.int .i64 a)] [] = (bif decide (a ≥ -6908435304716) then some (AV.val (Value.bool (bif true then decide (a ≤ 6908435304716) else false)),[]) else some (AV.val (Value.bool false),[])):=by kernel_rfl
theorem r181 (mu : Bool→Int × Int × Unit→Int × Bool) (rt inn : Int × Unit→Bool) (a e i n p m t : Int) : fnSum Tryz.prog { gam:=[(94,S0 rt),(233,S0 inn),(80,S 59 mu)] } [] 20 181 [.val (.agg #[.int .i64 a,.int .i64 e,.int .i64 i,.int .i64 n,.int .i64 p,.int .i64 m,.int .i64 t])] [] = (bif decide (e < 0) then some (AV.val (Value.bool false),[]) else bif bif false then true else decide (e > 109951162777) then some (AV.val (Value.bool false),[]) else bif bif false then true else decide (i < 0) then some (AV.val (Value.bool false),[]) else bif bif false then true else decide (i > 3454217652358) then some (AV.val (Value.bool false),[]) else bif bif false then true else !inn (n,()) then some (AV.val (Value.bool false),[]) else bif bif false then true else !inn (p,()) then some (AV.val (Value.bool false),[]) else bif bif false then true else !inn (m,()) then some (AV.val (Value.bool false),[]) else bif bif false then true else !rt (t,()) then some (AV.val (Value.bool false),[]) else bif !(mu (mu false (a,IntKind.i64.wrap (1099511627776 - e),())).snd (a,IntKind.i64.wrap (1099511627776 + e),())).snd then bif bif true then decide ((mu false (a,IntKind.i64.wrap (1099511627776 - e),())).fst ≥ 7232738120604) else false then some (AV.val (Value.bool (bif true then decide ((mu (mu false (a,IntKind.i64.wrap (1099511627776 - e),())).snd (a,IntKind.i64.wrap (1099511627776 + e),())).fst ≤ 9211859050600) else false)),[]) else some (AV.val (Value.bool false),[]) else some (AV.val (Value.bool false),[])):=by kernel_rfl
def inA (a : Int) : Bool:=decide (-6908435304716 ≤ a) && decide (a ≤ 6908435304716)
def orbOk (mu : Bool→Int × Int × Unit→Int × Bool) (rt : Int × Unit→Bool) (o : Orb) : Bool :=
  inA o.node && (inA o.peri && (inA o.m && (decide (0 ≤ o.e) && (decide (o.e ≤ 109951162777) && (decide (0 ≤ o.i) && (decide (o.i ≤ 3454217652358) && (rt (o.tk,()) &&
    (decide (7232738120604 ≤ (mu false (o.a,w64 (1099511627776 - o.e),())).1) && (decide ((mu (mu false (o.a,w64 (1099511627776 - o.e),())).2 (o.a,w64 (1099511627776 + o.e),())).1 ≤ 9211859050600) &&
      !(mu (mu false (o.a,w64 (1099511627776 - o.e),())).2 (o.a,w64 (1099511627776 + o.e),())).2)))))))))
theorem pullB {c r : Bool} : (bif c then some (AV.val (Value.bool false),([] : List Con)) else some (AV.val (Value.bool r),[])) = some (AV.val (Value.bool (!c && r)),[]):=by cases c <;> rfl
theorem pullT {c r : Bool} : (bif c then some (AV.val (Value.bool r),([] : List Con)) else some (AV.val (Value.bool false),[])) = some (AV.val (Value.bool (c && r)),[]):=by cases c <;> rfl
theorem notlt {x y : Int} : (!decide (x < y)) = decide (y ≤ x):=by rw [← decide_not]; simp
theorem right212 (mu : Bool→Int × Int × Unit→Int × Bool) (rt : Int × Unit→Bool) (o : Orb) : fnSum Tryz.prog { gam:=[(87,S0 rt),(64,S 57 mu)] } [] 20 212 [.val (Cod.enc o)] [] = some (.val (.bool (orbOk mu rt o)),[]):=by
  refine (r212 mu rt o.a o.e o.i o.node o.peri o.m o.tk).trans ?_
  simp only [cond_false,cond_true,pullB,pullT,GT.gt,GE.ge,notlt,Bool.not_not]
  unfold orbOk inA
  simp only [Bool.and_assoc]
theorem right233 (a : Int) : fnSum Tryz.prog { gam:=[] } [] 20 233 [.val (.int .i64 a)] [] = some (.val (.bool (inA a)),[]):=by
  rw [r233]
  simp only [cond_true,pullT,GE.ge]
  rfl
theorem right181 (mu : Bool→Int × Int × Unit→Int × Bool) (rt : Int × Unit→Bool) (o : Orb) : fnSum Tryz.prog { gam:=[(94,S0 rt),(233,S0 fun (p : Int × Unit)=>inA p.1),(80,S 59 mu)] } [] 20 181 [.val (Cod.enc o)] [] = some (.val (.bool (orbOk mu rt o)),[]):=by
  refine (r181 mu rt (fun p=>inA p.1) o.a o.e o.i o.node o.peri o.m o.tk).trans ?_
  simp only [cond_false,cond_true,pullB,pullT,GT.gt,GE.ge,notlt,Bool.not_not]
  unfold orbOk
  congr 4
  ac_rfl
def orbRight (o : Orb) : Bool:=orbOk (op2 fmul) (fun p=>isTick p.1) o
theorem okRight : SumOk Tryz.prog 212 (S0 fun (p : Orb × Unit)=>orbRight p.1):=S0_ok (E:={ gam:=[(87,S0 fun (p : Int × Unit)=>isTick p.1),(64,S 57 (op2 fmul))] }) (.cons ok40 (.cons ok121 .nil)) 20 fun a=>right212 _ _ a.1
theorem okIn : SumOk Tryz.prog 233 (S0 fun (p : Int × Unit)=>inA p.1):=S0_ok (E:={ gam:=[] }) GamOk.nil 20 fun a=>right233 a.1
theorem okRightR : SumOk Tryz.prog 181 (S0 fun (p : Orb × Unit)=>orbRight p.1):=S0_ok (E:={ gam:=[(94,S0 fun (p : Int × Unit)=>isTick p.1),(233,S0 fun (p : Int × Unit)=>inA p.1),(80,S 59 (op2 fmul))] }) (.cons ok41 (.cons okIn (.cons ok122 .nil))) 20 fun a=>right181 _ _ a.1
end Go.Ab
namespace Go.Ab
open Go Go.Proofs
def V4.zero : V4:=⟨0,0,0,0⟩
def V4.v (q : V4) : V3:=⟨q.w,q.x,q.y⟩
def V4.s (q : V4) : Int:=q.z
def mk4 (a : V3) (s : Int) : V4:=⟨a.x,a.y,a.z,s⟩
def gamNV (o : Ops) (v : VOps) : Gam:=gamN o ++ gamV v
theorem gamNV_ok : GamOk Tryz.prog (gamNV opsF vopsF):=GamOk.append gamN_ok gamV_ok
def qmulW (o : Ops) (v : VOps) (p q : V4) (r : V3) (f : Bool) : V4 × Bool :=
  let st:=o.mul f p.s q.s
  let d:=v.dot st.2 (p.v,q.v,())
  let w:=o.sub d.2 st.1 d.1
  (mk4 r w.1,w.2)
def qmulP (o : Ops) (v : VOps) (p q : V4) (b : Bool) : V4 × Bool :=
  let x:=v.scale b (p.v,q.s,())
  let y:=v.scale x.2 (q.v,p.s,())
  let s:=v.add y.2 (x.1,y.1,())
  let z:=v.cross s.2 (q.v,p.v,())
  let r:=v.add z.2 (s.1,z.1,())
  qmulW o v p q r.1 r.2
def done4 (r : V4 × Bool) : V4 × Bool:=(bif r.2 then V4.zero else r.1,r.2)
theorem mul92 (o : Ops) (v : VOps) (b : Bool) (p q : V4) : fnSum Tryz.prog { gam:=gamNV o v } [] 20 135 [.ptr 0 0,.val (Cod.enc p),.val (Cod.enc q)] (row 57 b) =
    some (.val (Cod.enc (done4 (qmulP o v p q b)).1),row 57 (done4 (qmulP o v p q b)).2):=by
  refine Eq.trans (?_ : _ = bif (qmulP o v p q b).2 then some (.val (Cod.enc V4.zero),row 57 (qmulP o v p q b).2) else some (.val (Cod.enc (qmulP o v p q b).1),row 57 (qmulP o v p q b).2)) pull
  kernel_rfl
def qturn (v : VOps) (b : Bool) (p : V4 × V3 × Unit) : V3 × Bool :=
  let c:=v.cross b (p.1.v,p.2.1,())
  let t:=v.scale c.2 (c.1,2199023255552,())
  let u:=v.scale t.2 (t.1,p.1.s,())
  let x:=v.sub u.2 (p.2.1,u.1,())
  let y:=v.cross x.2 (p.1.v,t.1,())
  v.add y.2 (x.1,y.1,())
theorem turn87 (o : Ops) (v : VOps) (b : Bool) (q : V4) (u : V3) : fnSum Tryz.prog { gam:=gamNV o v } [] 20 56 [.ptr 0 0,.val (Cod.enc q),.val (Cod.enc u)] (row 57 b) =
    some (.val (Cod.enc (qturn v b (q,u,())).1),row 57 (qturn v b (q,u,())).2):=by kernel_rfl
end Go.Ab
namespace Go.Ab
open Go Go.Proofs
def qmul (b : Bool) (p : V4 × V4 × Unit) : V4 × Bool:=done4 (qmulP opsF vopsF p.1 p.2.1 b)
theorem ok92 : SumOk Tryz.prog 135 (S 57 qmul):=S_ok gamNV_ok 20 fun b a=>mul92 opsF vopsF b a.1 a.2.1
theorem ok87 : SumOk Tryz.prog 56 (S 57 (qturn vopsF)):=S_ok gamNV_ok 20 fun b a=>turn87 opsF vopsF b a.1 a.2.1
def nb (x : Int) : Int:=bif decide (x ≤ 4611686018427387904) then (bif decide (x ≥ -4611686018427387904) then IntKind.i64.wrap (0 - x) else x) else x
def qback (p : V4 × Unit) : V4:=⟨nb p.1.w,nb p.1.x,nb p.1.y,p.1.z⟩
def nbP {α : Type} (x : Int) (K : Int→α) : α:=bif decide (x ≤ 4611686018427387904) then (bif decide (x ≥ -4611686018427387904) then K (IntKind.i64.wrap (0 - x)) else K x) else K x
theorem nbP_eq {α : Type} (x : Int) (K : Int→α) : nbP x K = K (nb x):=by
  unfold nbP nb
  cases decide (x ≤ 4611686018427387904) <;> cases decide (x ≥ -4611686018427387904) <;> rfl
theorem back91 (q : V4) : fnSum Tryz.prog { gam:=[] } [] 20 136 [.val (Cod.enc q)] [] =
    nbP q.w fun w=>nbP q.x fun x=>nbP q.y fun y=>some (.val (Cod.enc (V4.mk w x y q.z)),[]):=by kernel_rfl
theorem ok91 : SumOk Tryz.prog 136 (S0 qback):=S0_ok (E:={ gam:=[] }) GamOk.nil 20 fun a=>by
  refine (back91 a.1).trans ?_
  rw [nbP_eq,nbP_eq,nbP_eq]; rfl
end Go.Ab
namespace Go.Ab
open Go Go.Proofs
def neg4 (q : V4) : V4:=⟨IntKind.i64.wrap (0 - q.w),IntKind.i64.wrap (0 - q.x),IntKind.i64.wrap (0 - q.y),IntKind.i64.wrap (0 - q.z)⟩
def plain (q : V4) : V4:=bif decide (q.z < 0) then neg4 q else q
def qunit0 (o : Ops) (q : V4) (n : Int) (f : Bool) : V4 × Bool :=
  let a:=o.div f q.w n
  let b:=o.div a.2 q.x n
  let c:=o.div b.2 q.y n
  let d:=o.div c.2 q.z n
  (⟨a.1,b.1,c.1,d.1⟩,d.2)
def qlen (o : Ops) (b : Bool) (q : V4) : Int × Bool:=o.norm (o.norm b q.w q.x q.y).2 (o.norm b q.w q.x q.y).1 q.z 0
def qunitF (o : Ops) (q : V4) (n : Int) (f : Bool) : V4 × Bool:=(plain (qunit0 o q n f).1,(qunit0 o q n f).2)
def qunit (o : Ops) (b : Bool) (p : V4 × Unit) : V4 × Bool:=qunitF o p.1 (qlen o b p.1).1 (bif decide ((qlen o b p.1).1 < 549755813888) then true else (qlen o b p.1).2)
def qunitT (o : Ops) (e : TypeId) (q : V4) (n : Int) (f : Bool) : Option (AV × List Con) :=
  bif decide ((qunit0 o q n f).1.z < 0) then some (.val (Cod.enc (neg4 (qunit0 o q n f).1)),row e (qunit0 o q n f).2) else some (.val (Cod.enc (qunit0 o q n f).1),row e (qunit0 o q n f).2)
theorem qunitT_eq (o : Ops) (e : TypeId) (q : V4) (n : Int) (f : Bool) : qunitT o e q n f = some (.val (Cod.enc (qunitF o q n f).1),row e (qunitF o q n f).2):=pull
theorem unit72 (o : Ops) (b : Bool) (q : V4) : fnSum Tryz.prog { gam:=gamN o } [] 20 133 [.ptr 0 0,.val (Cod.enc q)] (row 57 b) =
    bif decide ((qlen o b q).1 < 549755813888) then qunitT o 57 q (qlen o b q).1 true else qunitT o 57 q (qlen o b q).1 (qlen o b q).2:=by kernel_rfl
theorem ok72 : SumOk Tryz.prog 133 (S 57 (qunit opsF)):=S_ok gamN_ok 20 fun b a=>by
  refine (unit72 opsF b a.1).trans ?_
  rw [qunitT_eq,qunitT_eq]
  exact pull2 (F:=qunitF opsF a.1 (qlen opsF b a.1).1)
end Go.Ab
namespace Go.Ab
open Go Go.Proofs
def muldiv (o : Ops) (k e : Int) (x : Int) (f : Bool) : Int × Bool:=o.div (o.mul f x k).2 (o.mul f x k).1 e
def rod0 (o : Ops) (p : V3) (d e : Int) (f : Bool) : V4 × Bool :=
  let r:=each3 f (muldiv o 8796093022208 e p.x) (muldiv o 8796093022208 e p.y) (muldiv o 8796093022208 e p.z)
  let s:=o.sub r.2 17592186044416 d
  let w:=o.div s.2 s.1 e
  (mk4 r.1 w.1,w.2)
def rodAt (o : Ops) (v : VOps) (b : Bool) (p : V3) : V4 × Bool :=
  let d:=v.dot b (p,p,())
  let e:=o.add d.2 17592186044416 d.1
  rod0 o p d.1 e.1 e.2
def fromRod (o : Ops) (v : VOps) (un : Bool→V4 × Unit→V4 × Bool) (b : Bool) (p : V3 × Unit) : V4 × Bool:=un (rodAt o v b p.1).2 ((rodAt o v b p.1).1,())
theorem rod80 (o : Ops) (v : VOps) (un : Bool→V4 × Unit→V4 × Bool) (b : Bool) (p : V3) : fnSum Tryz.prog { gam:=(133,S 57 un) :: gamNV o v } [] 20 142 [.ptr 0 0,.val (Cod.enc p)] (row 57 b) =
    some (.val (Cod.enc (fromRod o v un b (p,())).1),row 57 (fromRod o v un b (p,())).2):=by kernel_rfl
def add4 (o : Ops) (q : V4) (b : Bool) : Bool:=(o.add (o.add (o.add (o.add b q.w 0).2 q.x 0).2 q.y 0).2 q.z 0).2
def torod0 (o : Ops) (q : V4) (f : Bool) : V3 × Bool :=
  let e:=o.add f 1099511627776 q.z
  each3 e.2 (muldiv o 4398046511104 e.1 q.w) (muldiv o 4398046511104 e.1 q.x) (muldiv o 4398046511104 e.1 q.y)
def torodT (o : Ops) (e : TypeId) (q : V4) (f : Bool) : Option (AV × List Con) :=
  bif (torod0 o q f).2 then some (.val (Cod.enc V3.zero),row e (torod0 o q f).2) else some (.val (Cod.enc (torod0 o q f).1),row e (torod0 o q f).2)
theorem torodT_eq (o : Ops) (e : TypeId) (q : V4) (f : Bool) : torodT o e q f = some (.val (Cod.enc (done3 (torod0 o q f)).1),row e (done3 (torod0 o q f)).2):=pull
def toRod (o : Ops) (b : Bool) (p : V4 × Unit) : V3 × Bool:=bif add4 o p.1 b then (V3.zero,add4 o p.1 b) else done3 (torod0 o (plain p.1) (add4 o p.1 b))
def torodS (o : Ops) (e : TypeId) (q : V4) (b : Bool) : Option (AV × List Con) :=
  bif add4 o q b then some (.val (Cod.enc V3.zero),row e (add4 o q b)) else bif decide (q.z < 0) then torodT o e (neg4 q) (add4 o q b) else torodT o e q (add4 o q b)
theorem torodS_eq (o : Ops) (e : TypeId) (q : V4) (b : Bool) : torodS o e q b = some (.val (Cod.enc (toRod o b (q,())).1),row e (toRod o b (q,())).2):=by
  unfold torodS toRod plain
  rw [torodT_eq,torodT_eq]
  dsimp only
  cases add4 o q b <;> cases decide (q.z < 0) <;> rfl
theorem torod82 (o : Ops) (b : Bool) (q : V4) : fnSum Tryz.prog { gam:=gamN o } [] 20 134 [.ptr 0 0,.val (Cod.enc q)] (row 57 b) = torodS o 57 q b:=by kernel_rfl
theorem ok80 : SumOk Tryz.prog 142 (S 57 (fromRod opsF vopsF (qunit opsF))):=S_ok (E:={ gam:=(133,S 57 (qunit opsF)) :: gamNV opsF vopsF }) (.cons ok72 gamNV_ok) 20 fun b a=>rod80 opsF vopsF (qunit opsF) b a.1
theorem ok82 : SumOk Tryz.prog 134 (S 57 (toRod opsF)):=S_ok gamN_ok 20 fun b a=>(torod82 opsF b a.1).trans (torodS_eq opsF 57 a.1 b)
end Go.Ab
namespace Go.Ab
open Go Go.Proofs
structure PlOps where
  o : Ops
  sn : Bool→Int × Unit→Int × Bool
  cs : Bool→Int × Unit→Int × Bool
  dy : Bool→Int × Unit→Int × Bool
  kp : Bool→Int × Int × Unit→Int × Bool
  ok : Orb × Unit→Bool
  rt : Int × Unit→Bool
structure PH where
  a : Int
  b : Int
  c : Int
  s : Int
  node : Int
def plHead (F : PlOps) (f : Bool) (q : Orb) (tk : Int) : PH × Bool :=
  let o:=F.o
  let d1:=F.dy f (tk,())
  let d2:=F.dy d1.2 (q.tk,())
  let d:=o.sub d2.2 d1.1 d2.1
  let n1:=o.div d.2 3271636820114455529 q.a
  let n2:=o.sqrt n1.2 n1.1
  let n:=o.div n2.2 n2.1 q.a
  let r1:=o.mul n.2 q.e q.e
  let r2:=o.sub r1.2 1099511627776 r1.1
  let r:=o.sqrt r2.2 r2.1
  let k1:=o.mul r.2 r.1 r.1
  let k2:=o.mul k1.2 q.a k1.1
  let k3:=o.div k2.2 7012835795048 k2.1
  let k4:=o.mul k3.2 k3.1 k3.1
  let k5:=o.mul k4.2 1785540935 k4.1
  let k:=o.mul k5.2 k5.1 n.1
  let s:=F.sn k.2 (q.i,())
  let c:=F.cs s.2 (q.i,())
  let t:=o.mul c.2 s.1 s.1
  let a1:=o.mul t.2 k.1 c.1
  let a2:=o.mul a1.2 a1.1 d.1
  let node:=o.sub a2.2 q.node a2.1
  let p1:=o.part node.2 t.1 5 2
  let p2:=o.sub p1.2 2199023255552 p1.1
  let p3:=o.mul p2.2 k.1 p2.1
  let p4:=o.mul p3.2 p3.1 d.1
  let peri:=o.add p4.2 q.peri p4.1
  let w1:=o.mul peri.2 k.1 r.1
  let w2:=o.part w1.2 t.1 3 2
  let w3:=o.sub w2.2 1099511627776 w2.1
  let w:=o.mul w3.2 w1.1 w3.1
  let x1:=o.add w.2 n.1 w.1
  let x2:=o.mul x1.2 x1.1 d.1
  let x3:=o.add x2.2 q.m x2.1
  let x4:=o.mod x3.2 x3.1 6908435304716
  let x:=F.kp x4.2 (x4.1,q.e,())
  let u1:=F.cs x.2 (x.1,())
  let u2:=o.sub u1.2 u1.1 q.e
  let u:=o.mul u2.2 q.a u2.1
  let v1:=o.mul u.2 q.a r.1
  let v2:=F.sn v1.2 (x.1,())
  let v:=o.mul v2.2 v1.1 v2.1
  let e:=aboutO o F.sn F.cs v.2 (u.1,v.1,peri.1,())
  (⟨e.1.a,e.1.b,c.1,s.1,node.1⟩,e.2)
def plTailP (F : PlOps) (h : PH × Bool) : V3 × Bool :=
  let bc:=F.o.mul h.2 h.1.b h.1.c
  let e:=aboutO F.o F.sn F.cs bc.2 (h.1.a,bc.1,h.1.node,())
  let z:=F.o.mul e.2 h.1.b h.1.s
  (⟨e.1.a,e.1.b,z.1⟩,z.2)
def plT (e : TypeId) (ok rt b : Bool) (r : V3 × Bool) : Option (AV × List Con) :=
  bif !ok then some (.val (Cod.enc V3.zero),row e true) else bif !rt then some (.val (Cod.enc V3.zero),row e true) else bif b then some (.val (Cod.enc V3.zero),row e b) else
    bif r.2 then some (.val (Cod.enc V3.zero),row e r.2) else some (.val (Cod.enc r.1),row e r.2)
def gamPl (F : PlOps) : Gam:=(212,S0 F.ok) :: (181,S0 F.ok) :: (87,S0 F.rt) :: (94,S0 F.rt) :: (213,S 57 F.dy) :: (182,S 59 F.dy) :: (216,S 57 F.kp) :: (186,S 59 F.kp) :: (218,S 57 (aboutO F.o F.sn F.cs)) :: gamS F.o F.sn F.cs
theorem place168 (F : PlOps) (b : Bool) (q : Orb) (tk : Int) : fnSum Tryz.prog { gam:=gamPl F } [] 20 168 [.ptr 0 0,.val (Cod.enc q),.val (.int .i64 tk)] (row 57 b) =
    plT 57 (F.ok (q,())) (F.rt (tk,())) b (plTailP F (plHead F b q tk)):=by kernel_rfl
end Go.Ab
set_option linter.unusedSimpArgs false
namespace Go.Ab
open Go Go.Proofs
section
variable {F : PlOps} (hm : ∀ x y,F.o.mul true x y = (0,true)) (ha : ∀ x y,F.o.add true x y = (0,true)) (hs : ∀ x y,F.o.sub true x y = (0,true)) (hc : ∀ p,F.cs true p = (0,true)) (hn : ∀ p,F.sn true p = (0,true))
include hm ha hs hc hn
end
def PF : PlOps:={ o:=opsF,sn:=sinV,cs:=cosV,dy:=vdays opsF,kp:=kepV,ok:=fun p=>orbRight p.1,rt:=fun p=>isTick p.1 }
def placeO (F : PlOps) (b : Bool) (p : Orb × Int × Unit) : V3 × Bool :=
  bif !F.ok (p.1,()) then (V3.zero,true) else bif !F.rt (p.2.1,()) then (V3.zero,true) else bif b then (V3.zero,b) else done3 (plTailP F (plHead F b p.1 p.2.1))
theorem plT_eq (e : TypeId) (ok rt b : Bool) (r : V3 × Bool) : plT e ok rt b r = some (.val (Cod.enc (bif !ok then (V3.zero,true) else bif !rt then (V3.zero,true) else bif b then (V3.zero,b) else done3 r).1),row e (bif !ok then (V3.zero,true) else bif !rt then (V3.zero,true) else bif b then (V3.zero,b) else done3 r).2):=by
  unfold plT done3
  cases ok <;> cases rt <;> cases b <;> cases r.2 <;> rfl
def placeV : Bool→Orb × Int × Unit→V3 × Bool:=placeO PF
theorem PF_o : PF.o = opsF:=by simp only [PF]
theorem PF_sn : PF.sn = sinV:=by simp only [PF]
theorem PF_cs : PF.cs = cosV:=by simp only [PF]
theorem PF_dy : PF.dy = vdays opsF:=by simp only [PF]
theorem PF_kp : PF.kp = kepV:=by simp only [PF]
theorem PF_ok : PF.ok = fun p=>orbRight p.1:=by simp only [PF]
theorem PF_rt : PF.rt = fun p=>isTick p.1:=by simp only [PF]
theorem gamPl_ok : GamOk Tryz.prog (gamPl PF):=by
  unfold gamPl
  rw [PF_o,PF_sn,PF_cs,PF_dy,PF_kp,PF_ok,PF_rt]
  exact .cons okRight (.cons okRightR (.cons ok40 (.cons ok41 (.cons ok38 (.cons ok39 (.cons okKep (.cons okKepR (.cons okAbout gamS_ok))))))))
theorem okPlace : SumOk Tryz.prog 168 (S 57 placeV):=S_ok gamPl_ok 20 fun b a=>(place168 PF b a.1 a.2.1).trans (plT_eq ..)
end Go.Ab
set_option linter.unusedSimpArgs false
namespace Go.Ab
open Go Go.Proofs
structure SH where
  d : Int
  g : Int
  q : Int
def goesO (o : Ops) (b : Bool) (p : Int × Int × Int × Unit) : Int × Bool :=
  let m:=o.mul b p.2.1 p.2.2.1
  let a:=o.add m.2 p.1 m.1
  o.mod a.2 a.1 6908435304716
theorem goes219 (o : Ops) (b : Bool) (x y z : Int) : fnSum Tryz.prog { gam:=gamN o } [] 20 219 [.ptr 0 0,.val (.int .i64 x),.val (.int .i64 y),.val (.int .i64 z)] (row 57 b) =
    some (.val (Cod.enc (goesO o b (x,y,z,())).1),row 57 (goesO o b (x,y,z,())).2):=by kernel_rfl
def snHead (F : PlOps) (b : Bool) (tk : Int) : SH × Bool :=
  let d:=F.dy b (tk,())
  let g:=goesO F.o d.2 (6870645337657,18913766030,d.1,())
  let q:=goesO F.o g.2 (5399914965875,18914669500,d.1,())
  (⟨d.1,g.1,q.1⟩,q.2)
def snMidP (F : PlOps) (h : SH × Bool) : Int × Bool :=
  let s:=F.sn h.2 (h.1.g,())
  let m:=F.o.mul s.2 36749037801 s.1
  let a:=F.o.add m.2 h.1.q m.1
  let t:=F.sn a.2 (w64 (2 * h.1.g),())
  let n:=F.o.mul t.2 383801961 t.1
  F.o.add n.2 a.1 n.1
def snTail (F : PlOps) (d : Int) (l : Int × Bool) : V3 × Bool :=
  let p:=F.o.mul l.2 6908 d
  let e:=F.o.sub p.2 449733620800 p.1
  let s:=F.sn e.2 (l.1,())
  let x:=F.cs s.2 (l.1,())
  let c:=F.cs x.2 (e.1,())
  let y:=F.o.mul c.2 c.1 s.1
  let t:=F.sn y.2 (e.1,())
  let z:=F.o.mul t.2 t.1 s.1
  (⟨x.1,y.1,z.1⟩,z.2)
def gamSn (F : PlOps) : Gam:=(219,S 57 (goesO F.o)) :: gamPl F
def snT (e : TypeId) (r : V3 × Bool) : Option (AV × List Con):=bif r.2 then some (.val (Cod.enc V3.zero),row e r.2) else some (.val (Cod.enc r.1),row e r.2)
theorem sun169 (F : PlOps) (b : Bool) (tk : Int) : fnSum Tryz.prog { gam:=gamSn F } [] 20 169 [.ptr 0 0,.val (.int .i64 tk)] (row 57 b) =
    snT 57 (snTail F (snHead F b tk).1.d (snMidP F (snHead F b tk))):=by kernel_rfl
theorem snT_eq (e : TypeId) (r : V3 × Bool) : snT e r = some (.val (Cod.enc (done3 r).1),row e (done3 r).2):=by
  unfold snT done3
  cases r.2 <;> rfl
section
variable {F : PlOps} (hm : ∀ x y,F.o.mul true x y = (0,true)) (ha : ∀ x y,F.o.add true x y = (0,true)) (hs : ∀ x y,F.o.sub true x y = (0,true)) (hc : ∀ p,F.cs true p = (0,true)) (hn : ∀ p,F.sn true p = (0,true))
include hm ha hs hc hn
end
def sunV (b : Bool) (p : Int × Unit) : V3 × Bool:=done3 (snTail PF (snHead PF b p.1).1.d (snMidP PF (snHead PF b p.1)))
theorem okGoes : SumOk Tryz.prog 219 (S 57 (goesO opsF)):=S_ok gamN_ok 20 fun b a=>goes219 opsF b a.1 a.2.1 a.2.2.1
theorem gamSn_ok : GamOk Tryz.prog (gamSn PF):=by
  unfold gamSn
  rw [PF_o]
  exact .cons okGoes gamPl_ok
theorem okSun : SumOk Tryz.prog 169 (S 57 sunV):=S_ok gamSn_ok 20 fun b a=>(sun169 PF b a.1).trans (snT_eq ..)
structure ShadeN where
  c : Int
  n : Int
def shade0 (v : VOps) (b : Bool) (p s : V3) : ShadeN × Bool :=
  let c:=v.dot b (p,s,())
  let t:=v.scale c.2 (s,c.1,())
  let d:=v.sub t.2 (p,t.1,())
  let n:=v.norm d.2 (d.1,())
  (⟨c.1,n.1⟩,n.2)
def shadeT (e : TypeId) (r : ShadeN × Bool) : Option (AV × List Con) :=
  bif !r.2 then bif decide (r.1.c < 0) then some (.val (Cod.enc (decide (r.1.n < 7012835795048))),row e r.2) else some (.val (Cod.enc false),row e r.2) else some (.val (Cod.enc false),row e r.2)
theorem shade171 (v : VOps) (b : Bool) (p s : V3) : fnSum Tryz.prog { gam:=gamV v } [] 20 171 [.ptr 0 0,.val (Cod.enc p),.val (Cod.enc s)] (row 57 b) = shadeT 57 (shade0 v b p s):=by kernel_rfl
def shadeF (v : VOps) (b : Bool) (p : V3 × V3 × Unit) : Bool × Bool:=(!(shade0 v b p.1 p.2.1).2 && (decide ((shade0 v b p.1 p.2.1).1.c < 0) && decide ((shade0 v b p.1 p.2.1).1.n < 7012835795048)),(shade0 v b p.1 p.2.1).2)
theorem shadeT_eq (e : TypeId) (r : ShadeN × Bool) : shadeT e r = some (.val (Cod.enc (!r.2 && (decide (r.1.c < 0) && decide (r.1.n < 7012835795048)))),row e r.2):=by
  unfold shadeT
  cases r.2 <;> cases decide (r.1.c < 0) <;> rfl
def shadeV : Bool→V3 × V3 × Unit→Bool × Bool:=shadeF vopsF
theorem okShade : SumOk Tryz.prog 171 (S 57 shadeV):=S_ok gamV_ok 20 fun b a=>(shade171 vopsF b a.1 a.2.1).trans (shadeT_eq ..)
end Go.Ab
set_option linter.unusedSimpArgs false
namespace Go.Ab
open Go Go.Proofs
def kI (n : Nat) : Value:=.int .i64 (n : Int)
def key2 (n m : Nat) : Value:=.agg #[kI n,kI m]
def val3 (p d q : Int) : Value:=.agg #[.int .i64 p,.int .i64 d,.int .i64 q]
noncomputable def tmC : Code:=Tryz.f245.body.getD .skip
noncomputable def tm0 : Code:=seqL tmC
noncomputable def tm1 : Code:=seqL (seqR tmC)
noncomputable def tm2 : Code:=seqL (seqR (seqR tmC))
noncomputable def tm3 : Code:=seqL (seqL (seqR (seqR (seqR tmC))))
noncomputable def tmL : Code:=inB (inB (seqR (seqL (seqR (seqR (seqR tmC))))))
noncomputable def tmE : Code:=seqR (seqR (seqR (seqR tmC)))
def regOps : Code→Array Oper
  | .region _ ops _=>ops
  | _=>#[]
noncomputable def tmOps : Array Oper:=regOps tm1
theorem tm1_is : tm1 = .region 1 tmOps true:=by kernel_rfl
theorem tmOps_size : tmOps.size = 11:=by kernel_rfl
theorem tmOps_bind : tmOps.toList.map binding = [[],[],[],[0,1,2],[],[],[],[5,6],[0,4,7],[0,1,2,3,4,5,6,7,8],[9,0,1,2,3,4,5,6,7,8,9]]:=by kernel_rfl
theorem tm_mixed : Tryz.prog.follows .mixedOrders = true:=by kernel_rfl
theorem tm_bind {j : Nat} {o : Oper} (h : tmOps[j]? = some o) : [[],[],[],[0,1,2],[],[],[],[5,6],[0,4,7],[0,1,2,3,4,5,6,7,8],[9,0,1,2,3,4,5,6,7,8,9]][j]? = some (binding o):=by
  have:=congrArg (fun l=>l[j]?) tmOps_bind
  simp only [List.getElem?_map,Array.getElem?_toList,h,Option.map_some] at this
  exact this.symm
theorem tm_edge (i : Nat) (o : Oper) (h : tmOps[i]? = some o) : ∀ k ∈ binding o,k < i:=by
  have h0:=tm_bind h
  have hi : i < 11:=by rw [← tmOps_size]; exact (Array.getElem?_eq_some_iff.1 h).1
  match i,hi with
  | 0,_=>simp only [List.getElem?_cons_zero,List.getElem?_cons_succ,Option.some.injEq] at h0; rw [← h0]; decide
  | 1,_=>simp only [List.getElem?_cons_zero,List.getElem?_cons_succ,Option.some.injEq] at h0; rw [← h0]; decide
  | 2,_=>simp only [List.getElem?_cons_zero,List.getElem?_cons_succ,Option.some.injEq] at h0; rw [← h0]; decide
  | 3,_=>simp only [List.getElem?_cons_zero,List.getElem?_cons_succ,Option.some.injEq] at h0; rw [← h0]; decide
  | 4,_=>simp only [List.getElem?_cons_zero,List.getElem?_cons_succ,Option.some.injEq] at h0; rw [← h0]; decide
  | 5,_=>simp only [List.getElem?_cons_zero,List.getElem?_cons_succ,Option.some.injEq] at h0; rw [← h0]; decide
  | 6,_=>simp only [List.getElem?_cons_zero,List.getElem?_cons_succ,Option.some.injEq] at h0; rw [← h0]; decide
  | 7,_=>simp only [List.getElem?_cons_zero,List.getElem?_cons_succ,Option.some.injEq] at h0; rw [← h0]; decide
  | 8,_=>simp only [List.getElem?_cons_zero,List.getElem?_cons_succ,Option.some.injEq] at h0; rw [← h0]; decide
  | 9,_=>simp only [List.getElem?_cons_zero,List.getElem?_cons_succ,Option.some.injEq] at h0; rw [← h0]; decide
  | 10,_=>simp only [List.getElem?_cons_zero,List.getElem?_cons_succ,Option.some.injEq] at h0; rw [← h0]; decide
def tmBuf (b3 b8 : Bool) (c s : Int) : List Value:=[key2 0 0,.bool b3,val3 1099511627776 0 0,key2 1 1,.bool b8,val3 s c 1099511627776]
def tmHp (b0 : Bool) (f : Bool) (ob : Obj) : Hp:=bif b0 then [(0,.row 57 [.val (.bool f)]),(4096,.row 55 [.ptr 0 0]),((4096 + 1 * 2 ^ 180),.obj ob)] else [(0,.row 57 [.val (.bool f)]),(4096,.row 55 [.ptr 0 0])]
def tmMap (b3 b8 : Bool) (c s : Int) : Obj:=.chan 1 (List.toArray (tmBuf b3 b8 c s)) false 0 0 false
def tmS (c s : Int) (f : Bool) (ob : Obj) (b0 b1 b2 b4 b5 b6 b7 b9 b10 : Bool) : St:=gSt 181 [(1,.val (.int .i64 c)),(2,.val (.int .i64 s)),(3,.ptr 4096 0),(17,bif b0 then .map (4096 + 1 * 2 ^ 180) else .any),(18,bif b1 then .val (key2 0 0) else .any),(19,bif b2 then .val (val3 1099511627776 0 0) else .any),(20,bif b4 then .val (key2 1 1) else .any),
  (21,bif b5 then .val (.int .i64 s) else .any),(22,bif b6 then .val (.int .i64 c) else .any),(23,bif b7 then .val (val3 s c 1099511627776) else .any),(24,bif b9 then .map (4096 + 1 * 2 ^ 180) else .any),(7,bif b10 then .map (4096 + 1 * 2 ^ 180) else .any)] (tmHp b0 f ob) (bif b0 then (4096 + 2 * 2 ^ 180) else (4096 + 1 * 2 ^ 180))
theorem tmOp0 (c s : Int) (f : Bool) (b1 b2 b3 b4 b5 b6 b7 b8 b9 b10 : Bool) : (tmOps[0]?).bind (fun o=>opGo Tryz.prog { gam:=[] } 181 tmOps o (tmS c s f (tmMap b3 b8 c s) false b1 b2 b4 b5 b6 b7 b9 b10)) = some (tmS c s f (.map #[] 0) true b1 b2 b4 b5 b6 b7 b9 b10):=by kernel_rfl
theorem tmOp1 (c s : Int) (f : Bool) (b0 b2 b3 b4 b5 b6 b7 b8 b9 b10 : Bool) : (tmOps[1]?).bind (fun o=>opGo Tryz.prog { gam:=[] } 181 tmOps o (tmS c s f (tmMap b3 b8 c s) b0 false b2 b4 b5 b6 b7 b9 b10)) = some (tmS c s f (tmMap b3 b8 c s) b0 true b2 b4 b5 b6 b7 b9 b10):=by kernel_rfl
theorem tmOp2 (c s : Int) (f : Bool) (b0 b1 b3 b4 b5 b6 b7 b8 b9 b10 : Bool) : (tmOps[2]?).bind (fun o=>opGo Tryz.prog { gam:=[] } 181 tmOps o (tmS c s f (tmMap b3 b8 c s) b0 b1 false b4 b5 b6 b7 b9 b10)) = some (tmS c s f (tmMap b3 b8 c s) b0 b1 true b4 b5 b6 b7 b9 b10):=by kernel_rfl
theorem tmOp3 (c s : Int) (f : Bool) (b4 b5 b6 b7 b8 b9 b10 : Bool) : (tmOps[3]?).bind (fun o=>opGo Tryz.prog { gam:=[] } 181 tmOps o (tmS c s f (tmMap false b8 c s) true true true b4 b5 b6 b7 b9 b10)) = some (tmS c s f (tmMap true b8 c s) true true true b4 b5 b6 b7 b9 b10):=by kernel_rfl
theorem tmOp4 (c s : Int) (f : Bool) (b0 b1 b2 b3 b5 b6 b7 b8 b9 b10 : Bool) : (tmOps[4]?).bind (fun o=>opGo Tryz.prog { gam:=[] } 181 tmOps o (tmS c s f (tmMap b3 b8 c s) b0 b1 b2 false b5 b6 b7 b9 b10)) = some (tmS c s f (tmMap b3 b8 c s) b0 b1 b2 true b5 b6 b7 b9 b10):=by kernel_rfl
theorem tmOp5 (c s : Int) (f : Bool) (b0 b1 b2 b3 b4 b6 b7 b8 b9 b10 : Bool) : (tmOps[5]?).bind (fun o=>opGo Tryz.prog { gam:=[] } 181 tmOps o (tmS c s f (tmMap b3 b8 c s) b0 b1 b2 b4 false b6 b7 b9 b10)) = some (tmS c s f (tmMap b3 b8 c s) b0 b1 b2 b4 true b6 b7 b9 b10):=by kernel_rfl
theorem tmOp6 (c s : Int) (f : Bool) (b0 b1 b2 b3 b4 b5 b7 b8 b9 b10 : Bool) : (tmOps[6]?).bind (fun o=>opGo Tryz.prog { gam:=[] } 181 tmOps o (tmS c s f (tmMap b3 b8 c s) b0 b1 b2 b4 b5 false b7 b9 b10)) = some (tmS c s f (tmMap b3 b8 c s) b0 b1 b2 b4 b5 true b7 b9 b10):=by kernel_rfl
theorem tmOp7 (c s : Int) (f : Bool) (b0 b1 b2 b3 b4 b8 b9 b10 : Bool) : (tmOps[7]?).bind (fun o=>opGo Tryz.prog { gam:=[] } 181 tmOps o (tmS c s f (tmMap b3 b8 c s) b0 b1 b2 b4 true true false b9 b10)) = some (tmS c s f (tmMap b3 b8 c s) b0 b1 b2 b4 true true true b9 b10):=by kernel_rfl
theorem tmOp8 (c s : Int) (f : Bool) (b1 b2 b3 b5 b6 b9 b10 : Bool) : (tmOps[8]?).bind (fun o=>opGo Tryz.prog { gam:=[] } 181 tmOps o (tmS c s f (tmMap b3 false c s) true b1 b2 true b5 b6 true b9 b10)) = some (tmS c s f (tmMap b3 true c s) true b1 b2 true b5 b6 true b9 b10):=by kernel_rfl
theorem tmOp9 (c s : Int) (f : Bool) (b10 : Bool) : (tmOps[9]?).bind (fun o=>opGo Tryz.prog { gam:=[] } 181 tmOps o (tmS c s f (tmMap true true c s) true true true true true true true false b10)) = some (tmS c s f (tmMap true true c s) true true true true true true true true b10):=by kernel_rfl
theorem tmOp10 (c s : Int) (f : Bool) : (tmOps[10]?).bind (fun o=>opGo Tryz.prog { gam:=[] } 181 tmOps o (tmS c s f (tmMap true true c s) true true true true true true true true false)) = some (tmS c s f (tmMap true true c s) true true true true true true true true true):=by kernel_rfl
def tmSt (c s : Int) (f : Bool) (L : Nat→Bool) : St:=tmS c s f (tmMap (L 3) (L 8) c s) (L 0) (L 1) (L 2) (L 4) (L 5) (L 6) (L 7) (L 9) (L 10)
theorem hget_last {m : Nat} {x y : Con} {b : Nat} {c : Con} : ∀ {r : Hp},hget (r ++ [(m,x)]) b = some c→(b = m ∧ c = x) ∨ hget (r ++ [(m,y)]) b = some c
  | [],h=>by
    simp only [List.nil_append,hget] at h ⊢
    split at h
    · rename_i e
      exact .inl ⟨(Nat.eq_of_beq_eq_true e).symm,(Option.some.inj h).symm⟩
    · cases h
  | (k,z) :: r,h=>by
    simp only [List.cons_append,hget] at h ⊢
    split at h
    · exact .inr h
    · exact hget_last h
theorem tm_lo (c s : Int) (f b1 b2 b4 b5 b6 b7 b9 b10 : Bool) (ob ob1 : Obj) : (tmS c s f ob true b1 b2 b4 b5 b6 b7 b9 b10).lo ≤ (tmS c s f ob1 false b1 b2 b4 b5 b6 b7 b9 b10).hi :=
  show (4096 + 2 * 2 ^ 180 : Nat) ≤ 4096 + 2 ^ 200 from Nat.le_of_ble_eq_true (by kernel_rfl)
theorem tm_retell (c s : Int) (f b1 b2 b4 b5 b6 b7 b9 b10 : Bool) {w0 : World} {own : Nat→Prop} {σ0 : Nat→Option Nat} {lo0 hi0 : Nat} {a : Act} {w : World} (h : StFits 181 w0 own σ0 lo0 hi0 (tmS c s f (.map #[] 0) true b1 b2 b4 b5 b6 b7 b9 b10) a w) :
    StFits 181 w0 own σ0 lo0 hi0 (tmS c s f (tmMap false false c s) true b1 b2 b4 b5 b6 b7 b9 b10) a w:=by
  refine h.retell ((4096 + 1 * 2 ^ 180)) (ob:=.map #[] 0) (ob1:=tmMap false false c s) (by kernel_rfl) (fun o ho=>?_) rfl (fun b c hb=>?_) rfl rfl
  · have ho : o = .map #[] 0:=ho
    subst ho
    exact ⟨#[],0,rfl,List.Perm.nil⟩
  · exact hget_last (r:=[(0,.row 57 [.val (.bool f)]),(4096,.row 55 [.ptr 0 0])]) hb
theorem tm_step0 (c s : Int) (f : Bool) {L : Nat→Bool} {o : Oper} (ho : tmOps[0]? = some o) {w0 : World} {own : Nat→Prop} {σ0 : Nat→Option Nat} {lo0 hi0 : Nat} {a : Act} {w : World} (hst : StFits 181 w0 own σ0 lo0 hi0 (tmSt c s f L) a w) (hL : L 0 = false) (n3 : L 3 = false) (n8 : L 8 = false) (Q : Exit→Act→World→Prop) (K : Act→World→Prop)
    (hK : ∀ a' w',StFits 181 w0 own σ0 lo0 hi0 (tmSt c s f (lset L 0)) a' w'→K a' w') : wpOp Tryz.prog tmOps Q 0 K a w:=by
  unfold tmSt at hst
  rw [hL] at hst
  rw [n3,n8] at hst
  have e:=tmOp0 c s f (L 1) (L 2) false (L 4) (L 5) (L 6) (L 7) false (L 9) (L 10)
  rw [ho,Option.bind_some] at e
  refine step_op .nil ho e (.inl (tm_lo ..)) hst Q K fun a' w' h'=>hK a' w' ?_
  unfold tmSt
  rw [show lset L 0 0 = true from lset_at L 0,show lset L 0 1 = L 1 from rfl,show lset L 0 2 = L 2 from rfl,show lset L 0 3 = false from n3,show lset L 0 4 = L 4 from rfl,show lset L 0 5 = L 5 from rfl,show lset L 0 6 = L 6 from rfl,show lset L 0 7 = L 7 from rfl,show lset L 0 8 = false from n8,show lset L 0 9 = L 9 from rfl,show lset L 0 10 = L 10 from rfl]
  exact tm_retell c s f _ _ _ _ _ _ _ _ h'
theorem tm_step1 (c s : Int) (f : Bool) {L : Nat→Bool} {o : Oper} (ho : tmOps[1]? = some o) {w0 : World} {own : Nat→Prop} {σ0 : Nat→Option Nat} {lo0 hi0 : Nat} {a : Act} {w : World} (hst : StFits 181 w0 own σ0 lo0 hi0 (tmSt c s f L) a w) (hL : L 1 = false) (Q : Exit→Act→World→Prop) (K : Act→World→Prop)
    (hK : ∀ a' w',StFits 181 w0 own σ0 lo0 hi0 (tmSt c s f (lset L 1)) a' w'→K a' w') : wpOp Tryz.prog tmOps Q 1 K a w:=by
  unfold tmSt at hst
  rw [hL] at hst
  have e:=tmOp1 c s f (L 0) (L 2) (L 3) (L 4) (L 5) (L 6) (L 7) (L 8) (L 9) (L 10)
  rw [ho,Option.bind_some] at e
  refine step_op .nil ho e (.inr rfl) hst Q K fun a' w' h'=>hK a' w' ?_
  unfold tmSt
  rw [show lset L 1 0 = L 0 from rfl,show lset L 1 1 = true from lset_at L 1,show lset L 1 2 = L 2 from rfl,show lset L 1 3 = L 3 from rfl,show lset L 1 4 = L 4 from rfl,show lset L 1 5 = L 5 from rfl,show lset L 1 6 = L 6 from rfl,show lset L 1 7 = L 7 from rfl,show lset L 1 8 = L 8 from rfl,show lset L 1 9 = L 9 from rfl,show lset L 1 10 = L 10 from rfl]
  exact h'
theorem tm_step2 (c s : Int) (f : Bool) {L : Nat→Bool} {o : Oper} (ho : tmOps[2]? = some o) {w0 : World} {own : Nat→Prop} {σ0 : Nat→Option Nat} {lo0 hi0 : Nat} {a : Act} {w : World} (hst : StFits 181 w0 own σ0 lo0 hi0 (tmSt c s f L) a w) (hL : L 2 = false) (Q : Exit→Act→World→Prop) (K : Act→World→Prop)
    (hK : ∀ a' w',StFits 181 w0 own σ0 lo0 hi0 (tmSt c s f (lset L 2)) a' w'→K a' w') : wpOp Tryz.prog tmOps Q 2 K a w:=by
  unfold tmSt at hst
  rw [hL] at hst
  have e:=tmOp2 c s f (L 0) (L 1) (L 3) (L 4) (L 5) (L 6) (L 7) (L 8) (L 9) (L 10)
  rw [ho,Option.bind_some] at e
  refine step_op .nil ho e (.inr rfl) hst Q K fun a' w' h'=>hK a' w' ?_
  unfold tmSt
  rw [show lset L 2 0 = L 0 from rfl,show lset L 2 1 = L 1 from rfl,show lset L 2 2 = true from lset_at L 2,show lset L 2 3 = L 3 from rfl,show lset L 2 4 = L 4 from rfl,show lset L 2 5 = L 5 from rfl,show lset L 2 6 = L 6 from rfl,show lset L 2 7 = L 7 from rfl,show lset L 2 8 = L 8 from rfl,show lset L 2 9 = L 9 from rfl,show lset L 2 10 = L 10 from rfl]
  exact h'
theorem tm_step3 (c s : Int) (f : Bool) {L : Nat→Bool} {o : Oper} (ho : tmOps[3]? = some o) {w0 : World} {own : Nat→Prop} {σ0 : Nat→Option Nat} {lo0 hi0 : Nat} {a : Act} {w : World} (hst : StFits 181 w0 own σ0 lo0 hi0 (tmSt c s f L) a w) (hL : L 3 = false) (d0 : L 0 = true) (d1 : L 1 = true) (d2 : L 2 = true) (Q : Exit→Act→World→Prop) (K : Act→World→Prop)
    (hK : ∀ a' w',StFits 181 w0 own σ0 lo0 hi0 (tmSt c s f (lset L 3)) a' w'→K a' w') : wpOp Tryz.prog tmOps Q 3 K a w:=by
  unfold tmSt at hst
  rw [hL,d0,d1,d2] at hst
  have e:=tmOp3 c s f (L 4) (L 5) (L 6) (L 7) (L 8) (L 9) (L 10)
  rw [ho,Option.bind_some] at e
  refine step_op .nil ho e (.inr rfl) hst Q K fun a' w' h'=>hK a' w' ?_
  unfold tmSt
  rw [show lset L 3 0 = true from d0,show lset L 3 1 = true from d1,show lset L 3 2 = true from d2,show lset L 3 3 = true from lset_at L 3,show lset L 3 4 = L 4 from rfl,show lset L 3 5 = L 5 from rfl,show lset L 3 6 = L 6 from rfl,show lset L 3 7 = L 7 from rfl,show lset L 3 8 = L 8 from rfl,show lset L 3 9 = L 9 from rfl,show lset L 3 10 = L 10 from rfl]
  exact h'
theorem tm_step4 (c s : Int) (f : Bool) {L : Nat→Bool} {o : Oper} (ho : tmOps[4]? = some o) {w0 : World} {own : Nat→Prop} {σ0 : Nat→Option Nat} {lo0 hi0 : Nat} {a : Act} {w : World} (hst : StFits 181 w0 own σ0 lo0 hi0 (tmSt c s f L) a w) (hL : L 4 = false) (Q : Exit→Act→World→Prop) (K : Act→World→Prop)
    (hK : ∀ a' w',StFits 181 w0 own σ0 lo0 hi0 (tmSt c s f (lset L 4)) a' w'→K a' w') : wpOp Tryz.prog tmOps Q 4 K a w:=by
  unfold tmSt at hst
  rw [hL] at hst
  have e:=tmOp4 c s f (L 0) (L 1) (L 2) (L 3) (L 5) (L 6) (L 7) (L 8) (L 9) (L 10)
  rw [ho,Option.bind_some] at e
  refine step_op .nil ho e (.inr rfl) hst Q K fun a' w' h'=>hK a' w' ?_
  unfold tmSt
  rw [show lset L 4 0 = L 0 from rfl,show lset L 4 1 = L 1 from rfl,show lset L 4 2 = L 2 from rfl,show lset L 4 3 = L 3 from rfl,show lset L 4 4 = true from lset_at L 4,show lset L 4 5 = L 5 from rfl,show lset L 4 6 = L 6 from rfl,show lset L 4 7 = L 7 from rfl,show lset L 4 8 = L 8 from rfl,show lset L 4 9 = L 9 from rfl,show lset L 4 10 = L 10 from rfl]
  exact h'
theorem tm_step5 (c s : Int) (f : Bool) {L : Nat→Bool} {o : Oper} (ho : tmOps[5]? = some o) {w0 : World} {own : Nat→Prop} {σ0 : Nat→Option Nat} {lo0 hi0 : Nat} {a : Act} {w : World} (hst : StFits 181 w0 own σ0 lo0 hi0 (tmSt c s f L) a w) (hL : L 5 = false) (Q : Exit→Act→World→Prop) (K : Act→World→Prop)
    (hK : ∀ a' w',StFits 181 w0 own σ0 lo0 hi0 (tmSt c s f (lset L 5)) a' w'→K a' w') : wpOp Tryz.prog tmOps Q 5 K a w:=by
  unfold tmSt at hst
  rw [hL] at hst
  have e:=tmOp5 c s f (L 0) (L 1) (L 2) (L 3) (L 4) (L 6) (L 7) (L 8) (L 9) (L 10)
  rw [ho,Option.bind_some] at e
  refine step_op .nil ho e (.inr rfl) hst Q K fun a' w' h'=>hK a' w' ?_
  unfold tmSt
  rw [show lset L 5 0 = L 0 from rfl,show lset L 5 1 = L 1 from rfl,show lset L 5 2 = L 2 from rfl,show lset L 5 3 = L 3 from rfl,show lset L 5 4 = L 4 from rfl,show lset L 5 5 = true from lset_at L 5,show lset L 5 6 = L 6 from rfl,show lset L 5 7 = L 7 from rfl,show lset L 5 8 = L 8 from rfl,show lset L 5 9 = L 9 from rfl,show lset L 5 10 = L 10 from rfl]
  exact h'
theorem tm_step6 (c s : Int) (f : Bool) {L : Nat→Bool} {o : Oper} (ho : tmOps[6]? = some o) {w0 : World} {own : Nat→Prop} {σ0 : Nat→Option Nat} {lo0 hi0 : Nat} {a : Act} {w : World} (hst : StFits 181 w0 own σ0 lo0 hi0 (tmSt c s f L) a w) (hL : L 6 = false) (Q : Exit→Act→World→Prop) (K : Act→World→Prop)
    (hK : ∀ a' w',StFits 181 w0 own σ0 lo0 hi0 (tmSt c s f (lset L 6)) a' w'→K a' w') : wpOp Tryz.prog tmOps Q 6 K a w:=by
  unfold tmSt at hst
  rw [hL] at hst
  have e:=tmOp6 c s f (L 0) (L 1) (L 2) (L 3) (L 4) (L 5) (L 7) (L 8) (L 9) (L 10)
  rw [ho,Option.bind_some] at e
  refine step_op .nil ho e (.inr rfl) hst Q K fun a' w' h'=>hK a' w' ?_
  unfold tmSt
  rw [show lset L 6 0 = L 0 from rfl,show lset L 6 1 = L 1 from rfl,show lset L 6 2 = L 2 from rfl,show lset L 6 3 = L 3 from rfl,show lset L 6 4 = L 4 from rfl,show lset L 6 5 = L 5 from rfl,show lset L 6 6 = true from lset_at L 6,show lset L 6 7 = L 7 from rfl,show lset L 6 8 = L 8 from rfl,show lset L 6 9 = L 9 from rfl,show lset L 6 10 = L 10 from rfl]
  exact h'
theorem tm_step7 (c s : Int) (f : Bool) {L : Nat→Bool} {o : Oper} (ho : tmOps[7]? = some o) {w0 : World} {own : Nat→Prop} {σ0 : Nat→Option Nat} {lo0 hi0 : Nat} {a : Act} {w : World} (hst : StFits 181 w0 own σ0 lo0 hi0 (tmSt c s f L) a w) (hL : L 7 = false) (d5 : L 5 = true) (d6 : L 6 = true) (Q : Exit→Act→World→Prop) (K : Act→World→Prop)
    (hK : ∀ a' w',StFits 181 w0 own σ0 lo0 hi0 (tmSt c s f (lset L 7)) a' w'→K a' w') : wpOp Tryz.prog tmOps Q 7 K a w:=by
  unfold tmSt at hst
  rw [hL,d5,d6] at hst
  have e:=tmOp7 c s f (L 0) (L 1) (L 2) (L 3) (L 4) (L 8) (L 9) (L 10)
  rw [ho,Option.bind_some] at e
  refine step_op .nil ho e (.inr rfl) hst Q K fun a' w' h'=>hK a' w' ?_
  unfold tmSt
  rw [show lset L 7 0 = L 0 from rfl,show lset L 7 1 = L 1 from rfl,show lset L 7 2 = L 2 from rfl,show lset L 7 3 = L 3 from rfl,show lset L 7 4 = L 4 from rfl,show lset L 7 5 = true from d5,show lset L 7 6 = true from d6,show lset L 7 7 = true from lset_at L 7,show lset L 7 8 = L 8 from rfl,show lset L 7 9 = L 9 from rfl,show lset L 7 10 = L 10 from rfl]
  exact h'
theorem tm_step8 (c s : Int) (f : Bool) {L : Nat→Bool} {o : Oper} (ho : tmOps[8]? = some o) {w0 : World} {own : Nat→Prop} {σ0 : Nat→Option Nat} {lo0 hi0 : Nat} {a : Act} {w : World} (hst : StFits 181 w0 own σ0 lo0 hi0 (tmSt c s f L) a w) (hL : L 8 = false) (d0 : L 0 = true) (d4 : L 4 = true) (d7 : L 7 = true) (Q : Exit→Act→World→Prop) (K : Act→World→Prop)
    (hK : ∀ a' w',StFits 181 w0 own σ0 lo0 hi0 (tmSt c s f (lset L 8)) a' w'→K a' w') : wpOp Tryz.prog tmOps Q 8 K a w:=by
  unfold tmSt at hst
  rw [hL,d0,d4,d7] at hst
  have e:=tmOp8 c s f (L 1) (L 2) (L 3) (L 5) (L 6) (L 9) (L 10)
  rw [ho,Option.bind_some] at e
  refine step_op .nil ho e (.inr rfl) hst Q K fun a' w' h'=>hK a' w' ?_
  unfold tmSt
  rw [show lset L 8 0 = true from d0,show lset L 8 1 = L 1 from rfl,show lset L 8 2 = L 2 from rfl,show lset L 8 3 = L 3 from rfl,show lset L 8 4 = true from d4,show lset L 8 5 = L 5 from rfl,show lset L 8 6 = L 6 from rfl,show lset L 8 7 = true from d7,show lset L 8 8 = true from lset_at L 8,show lset L 8 9 = L 9 from rfl,show lset L 8 10 = L 10 from rfl]
  exact h'
theorem tm_step9 (c s : Int) (f : Bool) {L : Nat→Bool} {o : Oper} (ho : tmOps[9]? = some o) {w0 : World} {own : Nat→Prop} {σ0 : Nat→Option Nat} {lo0 hi0 : Nat} {a : Act} {w : World} (hst : StFits 181 w0 own σ0 lo0 hi0 (tmSt c s f L) a w) (hL : L 9 = false) (d0 : L 0 = true) (d1 : L 1 = true) (d2 : L 2 = true) (d3 : L 3 = true) (d4 : L 4 = true) (d5 : L 5 = true) (d6 : L 6 = true) (d7 : L 7 = true) (d8 : L 8 = true) (Q : Exit→Act→World→Prop) (K : Act→World→Prop)
    (hK : ∀ a' w',StFits 181 w0 own σ0 lo0 hi0 (tmSt c s f (lset L 9)) a' w'→K a' w') : wpOp Tryz.prog tmOps Q 9 K a w:=by
  unfold tmSt at hst
  rw [hL,d0,d1,d2,d3,d4,d5,d6,d7,d8] at hst
  have e:=tmOp9 c s f (L 10)
  rw [ho,Option.bind_some] at e
  refine step_op .nil ho e (.inr rfl) hst Q K fun a' w' h'=>hK a' w' ?_
  unfold tmSt
  rw [show lset L 9 0 = true from d0,show lset L 9 1 = true from d1,show lset L 9 2 = true from d2,show lset L 9 3 = true from d3,show lset L 9 4 = true from d4,show lset L 9 5 = true from d5,show lset L 9 6 = true from d6,show lset L 9 7 = true from d7,show lset L 9 8 = true from d8,show lset L 9 9 = true from lset_at L 9,show lset L 9 10 = L 10 from rfl]
  exact h'
theorem tm_step10 (c s : Int) (f : Bool) {L : Nat→Bool} {o : Oper} (ho : tmOps[10]? = some o) {w0 : World} {own : Nat→Prop} {σ0 : Nat→Option Nat} {lo0 hi0 : Nat} {a : Act} {w : World} (hst : StFits 181 w0 own σ0 lo0 hi0 (tmSt c s f L) a w) (hL : L 10 = false) (d0 : L 0 = true) (d1 : L 1 = true) (d2 : L 2 = true) (d3 : L 3 = true) (d4 : L 4 = true) (d5 : L 5 = true) (d6 : L 6 = true) (d7 : L 7 = true) (d8 : L 8 = true) (d9 : L 9 = true) (Q : Exit→Act→World→Prop) (K : Act→World→Prop)
    (hK : ∀ a' w',StFits 181 w0 own σ0 lo0 hi0 (tmSt c s f (lset L 10)) a' w'→K a' w') : wpOp Tryz.prog tmOps Q 10 K a w:=by
  unfold tmSt at hst
  rw [hL,d0,d1,d2,d3,d4,d5,d6,d7,d8,d9] at hst
  have e:=tmOp10 c s f
  rw [ho,Option.bind_some] at e
  refine step_op .nil ho e (.inr rfl) hst Q K fun a' w' h'=>hK a' w' ?_
  unfold tmSt
  rw [show lset L 10 0 = true from d0,show lset L 10 1 = true from d1,show lset L 10 2 = true from d2,show lset L 10 3 = true from d3,show lset L 10 4 = true from d4,show lset L 10 5 = true from d5,show lset L 10 6 = true from d6,show lset L 10 7 = true from d7,show lset L 10 8 = true from d8,show lset L 10 9 = true from d9,show lset L 10 10 = true from lset_at L 10]
  exact h'
theorem tm_region (c s : Int) (f : Bool) : RunsTo Tryz.prog 181 tm1 (tmS c s f (tmMap false false c s) false false false false false false false false false) .normal (tmS c s f (tmMap true true c s) true true true true true true true true true):=by
  rw [tm1_is]
  intro w0 own σ0 lo0 hi0 a w hst Q hQ
  refine wp_region_any tm_mixed ?_
  rw [tmOps_size]
  have hz : ∀ i,i < 11→(Array.replicate 11 false).getD i true = false:=fun i hi=>by simp [hi]
  refine any_inv tmOps_size tm_edge (fun L a w=>StFits 181 w0 own σ0 lo0 hi0 (tmSt c s f L) a w ∧ (L 0 = false→L 3 = false ∧ L 8 = false)) Q ?_ ?_ 11 _ a _ (by simp) (by simp) ⟨?_,fun _=>⟨hz 3 (by omega),hz 8 (by omega)⟩⟩
  · intro L j o a w hL ho hpre hinv K hK
    have hi : j < 11:=by rw [← tmOps_size]; exact (Array.getElem?_eq_some_iff.1 ho).1
    have h0:=tm_bind ho
    obtain ⟨hst,hno⟩:=hinv
    match j,hi with
    | 0,_ =>
      simp only [List.getElem?_cons_zero,List.getElem?_cons_succ,Option.some.injEq] at h0
      rw [← h0] at hpre
      refine tm_step0 c s f ho hst hL (hno hL).1 (hno hL).2 Q K fun a' w' h'=>hK a' w' ⟨h',fun h=>?_⟩
      rw [lset_at] at h; cases h
    | 1,_ =>
      simp only [List.getElem?_cons_zero,List.getElem?_cons_succ,Option.some.injEq] at h0
      rw [← h0] at hpre
      refine tm_step1 c s f ho hst hL Q K fun a' w' h'=>hK a' w' ⟨h',fun h=>?_⟩
      exact hno h
    | 2,_ =>
      simp only [List.getElem?_cons_zero,List.getElem?_cons_succ,Option.some.injEq] at h0
      rw [← h0] at hpre
      refine tm_step2 c s f ho hst hL Q K fun a' w' h'=>hK a' w' ⟨h',fun h=>?_⟩
      exact hno h
    | 3,_ =>
      simp only [List.getElem?_cons_zero,List.getElem?_cons_succ,Option.some.injEq] at h0
      rw [← h0] at hpre
      have d0 : L 0 = true:=hpre 0 (by decide)
      have d1 : L 1 = true:=hpre 1 (by decide)
      have d2 : L 2 = true:=hpre 2 (by decide)
      refine tm_step3 c s f ho hst hL d0 d1 d2 Q K fun a' w' h'=>hK a' w' ⟨h',fun h=>?_⟩
      rw [show lset L 3 0 = true from d0] at h; cases h
    | 4,_ =>
      simp only [List.getElem?_cons_zero,List.getElem?_cons_succ,Option.some.injEq] at h0
      rw [← h0] at hpre
      refine tm_step4 c s f ho hst hL Q K fun a' w' h'=>hK a' w' ⟨h',fun h=>?_⟩
      exact hno h
    | 5,_ =>
      simp only [List.getElem?_cons_zero,List.getElem?_cons_succ,Option.some.injEq] at h0
      rw [← h0] at hpre
      refine tm_step5 c s f ho hst hL Q K fun a' w' h'=>hK a' w' ⟨h',fun h=>?_⟩
      exact hno h
    | 6,_ =>
      simp only [List.getElem?_cons_zero,List.getElem?_cons_succ,Option.some.injEq] at h0
      rw [← h0] at hpre
      refine tm_step6 c s f ho hst hL Q K fun a' w' h'=>hK a' w' ⟨h',fun h=>?_⟩
      exact hno h
    | 7,_ =>
      simp only [List.getElem?_cons_zero,List.getElem?_cons_succ,Option.some.injEq] at h0
      rw [← h0] at hpre
      have d5 : L 5 = true:=hpre 5 (by decide)
      have d6 : L 6 = true:=hpre 6 (by decide)
      refine tm_step7 c s f ho hst hL d5 d6 Q K fun a' w' h'=>hK a' w' ⟨h',fun h=>?_⟩
      exact hno h
    | 8,_ =>
      simp only [List.getElem?_cons_zero,List.getElem?_cons_succ,Option.some.injEq] at h0
      rw [← h0] at hpre
      have d0 : L 0 = true:=hpre 0 (by decide)
      have d4 : L 4 = true:=hpre 4 (by decide)
      have d7 : L 7 = true:=hpre 7 (by decide)
      refine tm_step8 c s f ho hst hL d0 d4 d7 Q K fun a' w' h'=>hK a' w' ⟨h',fun h=>?_⟩
      rw [show lset L 8 0 = true from d0] at h; cases h
    | 9,_ =>
      simp only [List.getElem?_cons_zero,List.getElem?_cons_succ,Option.some.injEq] at h0
      rw [← h0] at hpre
      have d0 : L 0 = true:=hpre 0 (by decide)
      have d1 : L 1 = true:=hpre 1 (by decide)
      have d2 : L 2 = true:=hpre 2 (by decide)
      have d3 : L 3 = true:=hpre 3 (by decide)
      have d4 : L 4 = true:=hpre 4 (by decide)
      have d5 : L 5 = true:=hpre 5 (by decide)
      have d6 : L 6 = true:=hpre 6 (by decide)
      have d7 : L 7 = true:=hpre 7 (by decide)
      have d8 : L 8 = true:=hpre 8 (by decide)
      refine tm_step9 c s f ho hst hL d0 d1 d2 d3 d4 d5 d6 d7 d8 Q K fun a' w' h'=>hK a' w' ⟨h',fun h=>?_⟩
      rw [show lset L 9 0 = true from d0] at h; cases h
    | 10,_ =>
      simp only [List.getElem?_cons_zero,List.getElem?_cons_succ,Option.some.injEq] at h0
      rw [← h0] at hpre
      have d0 : L 0 = true:=hpre 0 (by decide)
      have d1 : L 1 = true:=hpre 1 (by decide)
      have d2 : L 2 = true:=hpre 2 (by decide)
      have d3 : L 3 = true:=hpre 3 (by decide)
      have d4 : L 4 = true:=hpre 4 (by decide)
      have d5 : L 5 = true:=hpre 5 (by decide)
      have d6 : L 6 = true:=hpre 6 (by decide)
      have d7 : L 7 = true:=hpre 7 (by decide)
      have d8 : L 8 = true:=hpre 8 (by decide)
      have d9 : L 9 = true:=hpre 9 (by decide)
      refine tm_step10 c s f ho hst hL d0 d1 d2 d3 d4 d5 d6 d7 d8 d9 Q K fun a' w' h'=>hK a' w' ⟨h',fun h=>?_⟩
      rw [show lset L 10 0 = true from d0] at h; cases h
  · intro L a w hinv hall
    refine hQ a w ?_
    have h:=hinv.1
    unfold tmSt at h
    rw [hall 0 (by omega),hall 1 (by omega),hall 2 (by omega),hall 3 (by omega),hall 4 (by omega),hall 5 (by omega),hall 6 (by omega),hall 7 (by omega),hall 8 (by omega),hall 9 (by omega),hall 10 (by omega)] at h
    exact h
  · have e : tmSt c s f (fun i=>(Array.replicate 11 false).getD i true) = tmS c s f (tmMap false false c s) false false false false false false false false false:=by
      unfold tmSt
      dsimp only
      rw [hz 0 (by omega),hz 1 (by omega),hz 2 (by omega),hz 3 (by omega),hz 4 (by omega),hz 5 (by omega),hz 6 (by omega),hz 7 (by omega),hz 8 (by omega),hz 9 (by omega),hz 10 (by omega)]
    rw [e]
    obtain ⟨σ,u,hf,h1,h2,h3,h4,h5,h6⟩:=hst
    exact ⟨σ,u,hf.drew,h1,h2,h3,h4,h5,h6⟩
end Go.Ab
namespace Go.Ab
open Go Go.Proofs
def ix (n m : Nat) : Nat:=3 * (7 * n + m)
def bufOf (T : Nat→Int) : List (Nat × Nat)→List Value
  | []=>[]
  | (n,m) :: r=>key2 n m :: .bool true :: val3 (T (ix n m)) (T (ix n m + 1)) (T (ix n m + 2)) :: bufOf T r
def keysAt : Nat→List (Nat × Nat)
  | 1=>[(0,0),(1,1)]
  | 2=>[(0,0),(1,1),(1,0)]
  | 3=>[(0,0),(1,1),(1,0),(2,0),(2,1),(2,2)]
  | 4=>[(0,0),(1,1),(1,0),(2,0),(2,1),(2,2),(3,0),(3,1),(3,2),(3,3)]
  | 5=>[(0,0),(1,1),(1,0),(2,0),(2,1),(2,2),(3,0),(3,1),(3,2),(3,3),(4,0),(4,1),(4,2),(4,3),(4,4)]
  | 6=>[(0,0),(1,1),(1,0),(2,0),(2,1),(2,2),(3,0),(3,1),(3,2),(3,3),(4,0),(4,1),(4,2),(4,3),(4,4),(5,0),(5,1),(5,2),(5,3),(5,4),(5,5)]
  | _=>[(0,0),(1,1),(1,0),(2,0),(2,1),(2,2),(3,0),(3,1),(3,2),(3,3),(4,0),(4,1),(4,2),(4,3),(4,4),(5,0),(5,1),(5,2),(5,3),(5,4),(5,5),(6,0),(6,1),(6,2),(6,3),(6,4),(6,5),(6,6)]
def put3 (T : Nat→Int) (j : Nat) (p d q : Int) : Nat→Int:=fun i=>bif Nat.beq i j then p else bif Nat.beq i (j + 1) then d else bif Nat.beq i (j + 2) then q else T i
def rtA (n m : Nat) : Int:=((n * n - m * m : Nat) : Int) * 1099511627776
def low3 (T : Nat→Int) (n m i : Nat) : Int:=bif Nat.ble (m + 2) n then T (ix (n - 2) m + i) else 0
def tmIn (o : Ops) (c s : Int) (n m : Nat) (z : (Nat→Int) × Bool) : (Nat→Int) × Bool :=
  let r1:=o.sqrt z.2 (rtA (n - 1) m)
  let r2:=o.sqrt r1.2 (rtA n m)
  let a:=o.div r2.2 r1.1 r2.1
  let b1:=o.part a.2 1099511627776 ((2 * n - 1 : Nat) : Int) 1
  let r3:=o.sqrt b1.2 (rtA n m)
  let b:=o.div r3.2 b1.1 r3.1
  let p1:=o.mul b.2 c (z.1 (ix (n - 1) m))
  let p2:=o.mul p1.2 b.1 p1.1
  let p3:=o.mul p2.2 a.1 (low3 z.1 n m 0)
  let p:=o.sub p3.2 p2.1 p3.1
  let d1:=o.mul p.2 c (z.1 (ix (n - 1) m + 1))
  let d2:=o.mul d1.2 s (z.1 (ix (n - 1) m))
  let d3:=o.sub d2.2 d1.1 d2.1
  let d4:=o.mul d3.2 b.1 d3.1
  let d5:=o.mul d4.2 a.1 (low3 z.1 n m 1)
  let d:=o.sub d5.2 d4.1 d5.1
  let q1:=o.mul d.2 c (z.1 (ix (n - 1) m + 2))
  let q2:=o.mul q1.2 b.1 q1.1
  let q3:=o.mul q2.2 a.1 (low3 z.1 n m 2)
  let q:=o.sub q3.2 q2.1 q3.1
  (put3 z.1 (ix n m) p.1 d.1 q.1,q.2)
def tmRow (o : Ops) (c s : Int) (n : Nat) : Nat→Nat→(Nat→Int) × Bool→(Nat→Int) × Bool
  | _,0,z=>z
  | m,k + 1,z=>tmRow o c s n (m + 1) k (tmIn o c s n m z)
def tmDiag (o : Ops) (c s : Int) (n : Nat) (z : (Nat→Int) × Bool) : (Nat→Int) × Bool :=
  let j1:=o.part z.2 1099511627776 ((2 * n - 1 : Nat) : Int) ((2 * n : Nat) : Int)
  let j:=o.sqrt j1.2 j1.1
  let p1:=o.mul j.2 s (z.1 (ix (n - 1) (n - 1)))
  let p:=o.mul p1.2 j.1 p1.1
  let d1:=o.mul p.2 s (z.1 (ix (n - 1) (n - 1) + 1))
  let d2:=o.mul d1.2 c (z.1 (ix (n - 1) (n - 1)))
  let d3:=o.add d2.2 d1.1 d2.1
  let d:=o.mul d3.2 j.1 d3.1
  let q1:=o.mul d.2 s (z.1 (ix (n - 1) (n - 1) + 2))
  let q:=o.mul q1.2 j.1 q1.1
  (put3 z.1 (ix n n) p.1 d.1 q.1,q.2)
def tmRound (o : Ops) (c s : Int) (k : Nat) (z : (Nat→Int) × Bool) : (Nat→Int) × Bool :=
  bif Nat.ble (k + 1) 1 then tmRow o c s (k + 1) 0 (k + 1) z else tmDiag o c s (k + 1) (tmRow o c s (k + 1) 0 (k + 1) z)
def tmT (c s : Int) : Nat→Int:=fun i=>bif Nat.beq i 0 then 1099511627776 else bif Nat.beq i 24 then s else bif Nat.beq i 25 then c else bif Nat.beq i 26 then 1099511627776 else 0
def tmObj (n : Nat) (T : Nat→Int) : Obj:=.chan 1 (List.toArray (bufOf T (keysAt n))) false 0 0 false
def tmI (c s : Int) (n : Nat) (T : Nat→Int) (f : Bool) : St:=gSt 181 [(1,.val (.int .i64 c)),(2,.val (.int .i64 s)),(3,.ptr 4096 0),(7,.map (4096 + 1 * 2 ^ 180)),(8,.func 254 [] [.ptr 4096 0]),(9,.val (kI n))]
  [(0,.row 57 [.val (.bool f)]),(4096,.row 55 [.ptr 0 0]),((4096 + 1 * 2 ^ 180),.obj (tmObj n T))] (4096 + 2 * 2 ^ 180)
def tmI0 (c s : Int) (T : Nat→Int) (f : Bool) : St:=gSt 181 [(1,.val (.int .i64 c)),(2,.val (.int .i64 s)),(3,.ptr 4096 0),(7,.map (4096 + 1 * 2 ^ 180)),(8,.func 254 [] [.ptr 4096 0])]
  [(0,.row 57 [.val (.bool f)]),(4096,.row 55 [.ptr 0 0]),((4096 + 1 * 2 ^ 180),.obj (tmObj 1 T))] (4096 + 2 * 2 ^ 180)
def tmZ (T : Nat→Int) (f : Bool) : St:=gSt 181 [(6,.map (4096 + 1 * 2 ^ 180))] [(0,.row 57 [.val (.bool f)]),(4096,.row 55 [.ptr 0 0]),((4096 + 1 * 2 ^ 180),.obj (tmObj 7 T))] (4096 + 2 * 2 ^ 180)
section
variable (o : Ops) (c s : Int) (T : Nat→Int) (f : Bool)
theorem tm_q0 : gRun Tryz.prog { gam:=gamN o } 181 tm0 (startS 181 [.ptr 0 0,.val (.int .i64 c),.val (.int .i64 s)] (row 57 f)) [0,4096] [1,2,3] = some (.normal,tmS c s f (tmMap false false c s) false false false false false false false false false):=by kernel_rfl
theorem tm_q2 : gRun Tryz.prog { gam:=gamN o } 181 tm2 (tmS c s f (tmMap true true c s) true true true true true true true true true) [0,4096,(4096 + 1 * 2 ^ 180)] [1,2,3,7,8] = some (.normal,tmI0 c s (tmT c s) f):=by kernel_rfl
theorem tm_q3 : gRun Tryz.prog { gam:=gamN o } 181 tm3 (tmI0 c s T f) [0,4096,(4096 + 1 * 2 ^ 180)] [1,2,3,7,8,9] = some (.normal,tmI c s 1 T f):=by kernel_rfl
theorem tm_qE : gRun Tryz.prog { gam:=gamN o } 181 tmE (tmI c s 7 T f) [0,4096,(4096 + 1 * 2 ^ 180)] [6] = some (.ret,tmZ T f):=by kernel_rfl
theorem tm_qX : gCut Tryz.prog { gam:=gamN o } 181 tmL (tmI c s 7 T f) (4096 + 2 * 2 ^ 180) [0,4096,(4096 + 1 * 2 ^ 180)] [1,2,3,7,8,9] = some (.exit 0,tmI c s 7 T f):=by kernel_rfl
theorem tm_q10 : gCut Tryz.prog { gam:=gamN o } 181 tmL (tmI c s 1 T f) (4096 + 2 * 2 ^ 180) [0,4096,(4096 + 1 * 2 ^ 180)] [1,2,3,7,8,9] = some (.normal,tmI c s 2 (tmRound o c s 0 (T,f)).1 (tmRound o c s 0 (T,f)).2):=by kernel_rfl
theorem tm_q11 : gCut Tryz.prog { gam:=gamN o } 181 tmL (tmI c s 2 T f) (4096 + 2 * 2 ^ 180) [0,4096,(4096 + 1 * 2 ^ 180)] [1,2,3,7,8,9] = some (.normal,tmI c s 3 (tmRound o c s 1 (T,f)).1 (tmRound o c s 1 (T,f)).2):=by kernel_rfl
theorem tm_q12 : gCut Tryz.prog { gam:=gamN o } 181 tmL (tmI c s 3 T f) (4096 + 2 * 2 ^ 180) [0,4096,(4096 + 1 * 2 ^ 180)] [1,2,3,7,8,9] = some (.normal,tmI c s 4 (tmRound o c s 2 (T,f)).1 (tmRound o c s 2 (T,f)).2):=by kernel_rfl
theorem tm_q13 : gCut Tryz.prog { gam:=gamN o } 181 tmL (tmI c s 4 T f) (4096 + 2 * 2 ^ 180) [0,4096,(4096 + 1 * 2 ^ 180)] [1,2,3,7,8,9] = some (.normal,tmI c s 5 (tmRound o c s 3 (T,f)).1 (tmRound o c s 3 (T,f)).2):=by kernel_rfl
theorem tm_q14 : gCut Tryz.prog { gam:=gamN o } 181 tmL (tmI c s 5 T f) (4096 + 2 * 2 ^ 180) [0,4096,(4096 + 1 * 2 ^ 180)] [1,2,3,7,8,9] = some (.normal,tmI c s 6 (tmRound o c s 4 (T,f)).1 (tmRound o c s 4 (T,f)).2):=by kernel_rfl
theorem tm_q15 : gCut Tryz.prog { gam:=gamN o } 181 tmL (tmI c s 6 T f) (4096 + 2 * 2 ^ 180) [0,4096,(4096 + 1 * 2 ^ 180)] [1,2,3,7,8,9] = some (.normal,tmI c s 7 (tmRound o c s 5 (T,f)).1 (tmRound o c s 5 (T,f)).2):=by kernel_rfl
theorem tmI_k2 : okClean (4096 + 2 * 2 ^ 180) (tmI c s 2 T f) = true:=by kernel_rfl
theorem tmI_k3 : okClean (4096 + 2 * 2 ^ 180) (tmI c s 3 T f) = true:=by kernel_rfl
theorem tmI_k4 : okClean (4096 + 2 * 2 ^ 180) (tmI c s 4 T f) = true:=by kernel_rfl
theorem tmI_k5 : okClean (4096 + 2 * 2 ^ 180) (tmI c s 5 T f) = true:=by kernel_rfl
theorem tmI_k6 : okClean (4096 + 2 * 2 ^ 180) (tmI c s 6 T f) = true:=by kernel_rfl
theorem tmI_k7 : okClean (4096 + 2 * 2 ^ 180) (tmI c s 7 T f) = true:=by kernel_rfl
end
end Go.Ab
namespace Go.Ab
theorem below2 {p : Nat→Prop} (h0 : p 0) (h1 : p 1) : ∀ i,i < 2→p i
  | 0,_=>h0
  | 1,_=>h1
  | n + 2,h=>absurd h (by omega)
theorem below6 {p : Nat→Prop} (h0 : p 0) (h1 : p 1) (h2 : p 2) (h3 : p 3) (h4 : p 4) (h5 : p 5) : ∀ i,i < 6→p i
  | 0,_=>h0
  | 1,_=>h1
  | 2,_=>h2
  | 3,_=>h3
  | 4,_=>h4
  | 5,_=>h5
  | n + 6,h=>absurd h (by omega)
theorem below13 {p : Nat→Prop} (h0 : p 0) (h1 : p 1) (h2 : p 2) (h3 : p 3) (h4 : p 4) (h5 : p 5) (h6 : p 6) (h7 : p 7) (h8 : p 8) (h9 : p 9) (h10 : p 10) (h11 : p 11) (h12 : p 12) : ∀ i,i < 13→p i
  | 0,_=>h0
  | 1,_=>h1
  | 2,_=>h2
  | 3,_=>h3
  | 4,_=>h4
  | 5,_=>h5
  | 6,_=>h6
  | 7,_=>h7
  | 8,_=>h8
  | 9,_=>h9
  | 10,_=>h10
  | 11,_=>h11
  | 12,_=>h12
  | n + 13,h=>absurd h (by omega)
end Go.Ab
namespace Go.Ab
open Go Go.Proofs
theorem tmC_is : Tryz.f245.body = some (.seq tm0 (.seq tm1 (.seq tm2 (.seq (.seq tm3 (.block 0 (.loop tmL))) tmE)))):=by kernel_rfl
theorem tmN_is : Tryz.f245.ntmps = 181:=by kernel_rfl
theorem f245_is : Tryz.prog.funcs[245]? = some Tryz.f245:=by kernel_rfl
def termsO (o : Ops) (b : Bool) (p : Int × Int × Unit) : (Nat→Int) × Bool:=iterF (tmRound o p.1 p.2.1) 0 6 (tmT p.1 p.2.1,b)
section
variable {o : Ops} (hG : GamOk Tryz.prog (gamN o))
include hG
theorem tm_r0 (c s : Int) (z : (Nat→Int) × Bool) : RunsTo Tryz.prog 181 tmL (tmI c s 1 z.1 z.2) .normal (tmI c s 2 (tmRound o c s 0 z).1 (tmRound o c s 0 z).2):=gCut_runs (E:={ gam:=gamN o }) hG (tm_q10 o c s z.1 z.2) rfl (tmI_k2 ..) rfl
theorem tm_r1 (c s : Int) (z : (Nat→Int) × Bool) : RunsTo Tryz.prog 181 tmL (tmI c s 2 z.1 z.2) .normal (tmI c s 3 (tmRound o c s 1 z).1 (tmRound o c s 1 z).2):=gCut_runs (E:={ gam:=gamN o }) hG (tm_q11 o c s z.1 z.2) rfl (tmI_k3 ..) rfl
theorem tm_r2 (c s : Int) (z : (Nat→Int) × Bool) : RunsTo Tryz.prog 181 tmL (tmI c s 3 z.1 z.2) .normal (tmI c s 4 (tmRound o c s 2 z).1 (tmRound o c s 2 z).2):=gCut_runs (E:={ gam:=gamN o }) hG (tm_q12 o c s z.1 z.2) rfl (tmI_k4 ..) rfl
theorem tm_r3 (c s : Int) (z : (Nat→Int) × Bool) : RunsTo Tryz.prog 181 tmL (tmI c s 4 z.1 z.2) .normal (tmI c s 5 (tmRound o c s 3 z).1 (tmRound o c s 3 z).2):=gCut_runs (E:={ gam:=gamN o }) hG (tm_q13 o c s z.1 z.2) rfl (tmI_k5 ..) rfl
theorem tm_r4 (c s : Int) (z : (Nat→Int) × Bool) : RunsTo Tryz.prog 181 tmL (tmI c s 5 z.1 z.2) .normal (tmI c s 6 (tmRound o c s 4 z).1 (tmRound o c s 4 z).2):=gCut_runs (E:={ gam:=gamN o }) hG (tm_q14 o c s z.1 z.2) rfl (tmI_k6 ..) rfl
theorem tm_r5 (c s : Int) (z : (Nat→Int) × Bool) : RunsTo Tryz.prog 181 tmL (tmI c s 6 z.1 z.2) .normal (tmI c s 7 (tmRound o c s 5 z).1 (tmRound o c s 5 z).2):=gCut_runs (E:={ gam:=gamN o }) hG (tm_q15 o c s z.1 z.2) rfl (tmI_k7 ..) rfl
theorem tm_x (c s : Int) (z : (Nat→Int) × Bool) : RunsTo Tryz.prog 181 tmL (tmI c s 7 z.1 z.2) (.exit 0) (tmI c s 7 z.1 z.2):=gCut_runs (E:={ gam:=gamN o }) hG (tm_qX o c s z.1 z.2) rfl (tmI_k7 ..) rfl
theorem tm_loop (c s : Int) (T : Nat→Int) (f : Bool) : RunsTo Tryz.prog 181 (.block 0 (.loop tmL)) (tmI c s 1 T f) .normal (tmI c s 7 (iterF (tmRound o c s) 0 6 (T,f)).1 (iterF (tmRound o c s) 0 6 (T,f)).2) :=
  RunsTo.rounds (P:=Tryz.prog) (N:=181) (c:=tmL) (id:=0) 6 (fun k z=>tmI c s (k + 1) z.1 z.2) (fun z=>tmI c s 7 z.1 z.2) (tmRound o c s)
    (fun k z hk=>below6 (p:=fun k=>∀ z : (Nat→Int) × Bool,RunsTo Tryz.prog 181 tmL (tmI c s (k + 1) z.1 z.2) .normal (tmI c s (k + 1 + 1) (tmRound o c s k z).1 (tmRound o c s k z).2)) (tm_r0 hG c s) (tm_r1 hG c s) (tm_r2 hG c s) (tm_r3 hG c s) (tm_r4 hG c s) (tm_r5 hG c s) k hk z)
    (fun z=>tm_x hG c s z) (T,f)
theorem tm_runs (b : Bool) (c s : Int) : RunsTo Tryz.prog 181 (.seq tm0 (.seq tm1 (.seq tm2 (.seq (.seq tm3 (.block 0 (.loop tmL))) tmE)))) (startS 181 [.ptr 0 0,.val (.int .i64 c),.val (.int .i64 s)] (row 57 b)) .ret (tmZ (termsO o b (c,s,())).1 (termsO o b (c,s,())).2) :=
  (gRun_runs (E:={ gam:=gamN o }) hG (tm_q0 o c s b)).seq ((tm_region c s b).seq ((gRun_runs (E:={ gam:=gamN o }) hG (tm_q2 o c s b)).seq (((gRun_runs (E:={ gam:=gamN o }) hG (tm_q3 o c s (tmT c s) b)).seq (tm_loop hG c s (tmT c s) b)).seq (gRun_runs (E:={ gam:=gamN o }) hG (tm_qE o c s _ _)))))
end
theorem tm_mlo : (4096 : Nat) ≤ (4096 + 1 * 2 ^ 180):=Nat.le_of_ble_eq_true (by kernel_rfl)
theorem tm_mhi : ((4096 + 1 * 2 ^ 180) : Nat) < 4096 + 2 ^ 200 :=
  show ((4096 + 1 * 2 ^ 180) + 1 : Nat) ≤ 4096 + 2 ^ 200 from Nat.le_of_ble_eq_true (by kernel_rfl)
theorem tm_hget (T : Nat→Int) (f : Bool) : hget (tmZ T f).heap (4096 + 1 * 2 ^ 180) = some (.obj (tmObj 7 T)):=by kernel_rfl
theorem tm_res (T : Nat→Int) (f : Bool) : resA Tryz.prog (tmZ T f) Tryz.f245.results.toList = some [.map (4096 + 1 * 2 ^ 180)]:=by kernel_rfl
def termsS (g : Bool→Int × Int × Unit→(Nat→Int) × Bool) : Summary:=fun args cs=>match args,cs with
  | [.ptr 0 0,.val (.int .i64 c),.val (.int .i64 s)],[.row e [.val (.bool b)]]=>match Nat.beq e 57 with
    | true=>.ret (.map 1) [.row 57 [.val (.bool (g b (c,s,())).2)],.obj (tmObj 7 (g b (c,s,())).1)]
    | false=>.no
  | _,_=>.no
theorem okTerms {o : Ops} (hG : GamOk Tryz.prog (gamN o)) : SumOk Tryz.prog 245 (termsS (termsO o)):=by
  intro args cs r cs' hs
  unfold termsS at hs
  split at hs
  · rename_i c s e b
    split at hs
    · rename_i he
      have:=Nat.eq_of_beq_eq_true he
      subst this
      simp only [STr.sel,Option.some.injEq,Prod.mk.injEq] at hs
      obtain ⟨rfl,rfl⟩:=hs
      refine sum_new (cs':=row 57 (termsO o b (c,s,())).2) (ds:=[.obj (tmObj 7 (termsO o b (c,s,())).1)]) (Ms:=[(4096 + 1 * 2 ^ 180)]) f245_is tmC_is tmN_is (by show 3 ≤ 181; omega) (by show 2 ≤ 4096; omega) rfl rfl (by simp) (fun m hm=>?_) rfl rfl (.inr rfl) (tm_runs hG b c s) (tm_res ..) rfl rfl (fun b' c hb=>?_) (fun i m d hi hd=>?_) rfl rfl rfl
      · rw [List.mem_singleton] at hm
        subst hm
        exact ⟨tm_mlo,tm_mhi⟩
      · match b',hb with
        | 0,hb=>cases hb; rfl
        | n + 1,hb=>simp [row] at hb
      · match i,hi,hd with
        | 0,hi,hd=>cases hi; cases hd; exact tm_hget ..
        | n + 1,hi,hd=>simp at hi
    · simp [STr.sel] at hs
  · simp [STr.sel] at hs
end Go.Ab
namespace Go.Ab
open Go Go.Proofs
def mdAt : Array MapEntry:=List.toArray [{ key:=key2 1 0,val:=.agg #[.int .i64 (-293500),.int .i64 0],born:=0 },{ key:=key2 1 1,val:=.agg #[.int .i64 (-14103),.int .i64 45455],born:=1 },{ key:=key2 2 0,val:=.agg #[.int .i64 (-25562),.int .i64 0],born:=2 },{ key:=key2 2 1,val:=.agg #[.int .i64 29509,.int .i64 (-31336)],born:=3 },{ key:=key2 2 2,val:=.agg #[.int .i64 16487,.int .i64 (-8142)],born:=4 },{ key:=key2 3 0,val:=.agg #[.int .i64 13609,.int .i64 0],born:=5 },{ key:=key2 3 1,val:=.agg #[.int .i64 (-24042),.int .i64 (-569)],born:=6 },{ key:=key2 3 2,val:=.agg #[.int .i64 12438,.int .i64 2376],born:=7 },{ key:=key2 3 3,val:=.agg #[.int .i64 4534,.int .i64 (-5496)],born:=8 },{ key:=key2 4 0,val:=.agg #[.int .i64 8947,.int .i64 0],born:=9 },{ key:=key2 4 1,val:=.agg #[.int .i64 7996,.int .i64 2786],born:=10 },{ key:=key2 4 2,val:=.agg #[.int .i64 558,.int .i64 (-1340)],born:=11 },{ key:=key2 4 3,val:=.agg #[.int .i64 (-2811),.int .i64 2120],born:=12 },{ key:=key2 4 4,val:=.agg #[.int .i64 120,.int .i64 (-3754)],born:=13 },{ key:=key2 5 0,val:=.agg #[.int .i64 (-2329),.int .i64 0],born:=14 },{ key:=key2 5 1,val:=.agg #[.int .i64 3690,.int .i64 453],born:=15 },{ key:=key2 5 2,val:=.agg #[.int .i64 1872,.int .i64 2200],born:=16 },{ key:=key2 5 3,val:=.agg #[.int .i64 (-1387),.int .i64 (-1229)],born:=17 },{ key:=key2 5 4,val:=.agg #[.int .i64 (-1419),.int .i64 429],born:=18 },{ key:=key2 5 5,val:=.agg #[.int .i64 209,.int .i64 1062],born:=19 },{ key:=key2 6 0,val:=.agg #[.int .i64 643,.int .i64 0],born:=20 },{ key:=key2 6 1,val:=.agg #[.int .i64 638,.int .i64 (-184)],born:=21 },{ key:=key2 6 2,val:=.agg #[.int .i64 767,.int .i64 168],born:=22 },{ key:=key2 6 3,val:=.agg #[.int .i64 (-1157),.int .i64 489],born:=23 },{ key:=key2 6 4,val:=.agg #[.int .i64 (-409),.int .i64 (-598)],born:=24 },{ key:=key2 6 5,val:=.agg #[.int .i64 149,.int .i64 109],born:=25 },{ key:=key2 6 6,val:=.agg #[.int .i64 (-608),.int .i64 728],born:=26 }]
def mdAdd : Array MapEntry:=List.toArray [{ key:=key2 1 0,val:=.agg #[.int .i64 126,.int .i64 0],born:=0 },{ key:=key2 1 1,val:=.agg #[.int .i64 100,.int .i64 (-215)],born:=1 },{ key:=key2 2 0,val:=.agg #[.int .i64 (-112),.int .i64 0],born:=2 },{ key:=key2 2 1,val:=.agg #[.int .i64 (-53),.int .i64 (-273)],born:=3 },{ key:=key2 2 2,val:=.agg #[.int .i64 (-83),.int .i64 (-111)],born:=4 }]
noncomputable def mdC : Code:=Tryz.f255.body.getD .skip
theorem mdC_is : Tryz.f255.body = some mdC:=by kernel_rfl
theorem f255_is : Tryz.prog.funcs[255]? = some Tryz.f255:=by kernel_rfl
def mdN : Nat:=79
theorem mdN_is : Tryz.f255.ntmps = mdN:=by kernel_rfl
def mdZ : St:=gSt mdN [(0,.map (4096 + 2 * 2 ^ 180)),(1,.map (4096 + 3 * 2 ^ 180))] [((4096 + 2 * 2 ^ 180),.obj (.map mdAt 27)),((4096 + 3 * 2 ^ 180),.obj (.map mdAdd 5))] (4096 + 4 * 2 ^ 180)
theorem md_q : gRun Tryz.prog { gam:=[] } mdN mdC (startS mdN [] []) [(4096 + 2 * 2 ^ 180),(4096 + 3 * 2 ^ 180)] [0,1] = some (.ret,mdZ):=by kernel_rfl
theorem md_res : resA Tryz.prog mdZ Tryz.f255.results.toList = some [.map (4096 + 2 * 2 ^ 180),.map (4096 + 3 * 2 ^ 180)]:=by kernel_rfl
theorem md_lo2 : (4096 : Nat) ≤ (4096 + 2 * 2 ^ 180):=Nat.le_of_ble_eq_true (by kernel_rfl)
theorem md_hi2 : ((4096 + 2 * 2 ^ 180) : Nat) < 4096 + 2 ^ 200:=show ((4096 + 2 * 2 ^ 180) + 1 : Nat) ≤ 4096 + 2 ^ 200 from Nat.le_of_ble_eq_true (by kernel_rfl)
theorem md_lo3 : (4096 : Nat) ≤ (4096 + 3 * 2 ^ 180):=Nat.le_of_ble_eq_true (by kernel_rfl)
theorem md_hi3 : ((4096 + 3 * 2 ^ 180) : Nat) < 4096 + 2 ^ 200:=show ((4096 + 3 * 2 ^ 180) + 1 : Nat) ≤ 4096 + 2 ^ 200 from Nat.le_of_ble_eq_true (by kernel_rfl)
theorem md_h2 : hget mdZ.heap (4096 + 2 * 2 ^ 180) = some (.obj (.map mdAt 27)):=by kernel_rfl
theorem md_h3 : hget mdZ.heap (4096 + 3 * 2 ^ 180) = some (.obj (.map mdAdd 5)):=by kernel_rfl
def modelS : Summary:=fun args cs=>match args,cs with
  | [],[]=>.ret (.tuple [.map 0,.map 1]) [.obj (.map mdAt 27),.obj (.map mdAdd 5)]
  | _,_=>.no
theorem okModel : SumOk Tryz.prog 255 modelS:=by
  intro args cs r cs' hs
  unfold modelS at hs
  split at hs
  · simp only [STr.sel,Option.some.injEq,Prod.mk.injEq] at hs
    obtain ⟨rfl,rfl⟩:=hs
    refine sum_new (cs':=[]) (ds:=[.obj (.map mdAt 27),.obj (.map mdAdd 5)]) (Ms:=[(4096 + 2 * 2 ^ 180),(4096 + 3 * 2 ^ 180)]) f255_is mdC_is mdN_is (Nat.zero_le _) (by show 2 ≤ 4096; omega) rfl rfl (by decide) (fun m hm=>?_) rfl rfl (.inr rfl) (gRun_runs (E:={ gam:=[] }) .nil md_q) md_res rfl rfl (fun b' c hb=>?_) (fun i m d hi hd=>?_) rfl rfl rfl
    · simp only [List.mem_cons,List.not_mem_nil,or_false] at hm
      rcases hm with rfl | rfl
      · exact ⟨md_lo2,md_hi2⟩
      · exact ⟨md_lo3,md_hi3⟩
    · simp at hb
    · match i,hi,hd with
      | 0,hi,hd=>cases hi; cases hd; exact md_h2
      | 1,hi,hd=>cases hi; cases hd; exact md_h3
      | n + 2,hi,hd=>simp at hi
  · simp [STr.sel] at hs
structure Tab where
  g : Int
  h : Int
  a : Int
  b : Int
  low : Bool
def numTab (k : Nat) : Tab :=
  bif Nat.beq k 10 then ⟨(-293500),0,126,0,true⟩ else
  bif Nat.beq k 11 then ⟨(-14103),45455,100,(-215),true⟩ else
  bif Nat.beq k 20 then ⟨(-25562),0,(-112),0,true⟩ else
  bif Nat.beq k 21 then ⟨29509,(-31336),(-53),(-273),true⟩ else
  bif Nat.beq k 22 then ⟨16487,(-8142),(-83),(-111),true⟩ else
  bif Nat.beq k 30 then ⟨13609,0,0,0,false⟩ else
  bif Nat.beq k 31 then ⟨(-24042),(-569),0,0,false⟩ else
  bif Nat.beq k 32 then ⟨12438,2376,0,0,false⟩ else
  bif Nat.beq k 33 then ⟨4534,(-5496),0,0,false⟩ else
  bif Nat.beq k 40 then ⟨8947,0,0,0,false⟩ else
  bif Nat.beq k 41 then ⟨7996,2786,0,0,false⟩ else
  bif Nat.beq k 42 then ⟨558,(-1340),0,0,false⟩ else
  bif Nat.beq k 43 then ⟨(-2811),2120,0,0,false⟩ else
  bif Nat.beq k 44 then ⟨120,(-3754),0,0,false⟩ else
  bif Nat.beq k 50 then ⟨(-2329),0,0,0,false⟩ else
  bif Nat.beq k 51 then ⟨3690,453,0,0,false⟩ else
  bif Nat.beq k 52 then ⟨1872,2200,0,0,false⟩ else
  bif Nat.beq k 53 then ⟨(-1387),(-1229),0,0,false⟩ else
  bif Nat.beq k 54 then ⟨(-1419),429,0,0,false⟩ else
  bif Nat.beq k 55 then ⟨209,1062,0,0,false⟩ else
  bif Nat.beq k 60 then ⟨643,0,0,0,false⟩ else
  bif Nat.beq k 61 then ⟨638,(-184),0,0,false⟩ else
  bif Nat.beq k 62 then ⟨767,168,0,0,false⟩ else
  bif Nat.beq k 63 then ⟨(-1157),489,0,0,false⟩ else
  bif Nat.beq k 64 then ⟨(-409),(-598),0,0,false⟩ else
  bif Nat.beq k 65 then ⟨149,109,0,0,false⟩ else
  bif Nat.beq k 66 then ⟨(-608),728,0,0,false⟩ else
  ⟨0,0,0,0,false⟩
def tabOf (n m : Int) : Tab:=match n with
  | .ofNat n=>(match m with
    | .ofNat m=>numTab (10 * n + m)
    | _=>⟨0,0,0,0,false⟩)
  | _=>⟨0,0,0,0,false⟩
def numAt (o : Ops) (t : Tab) (d : Int) (f : Bool) : Two Int Int × Bool :=
  let g0:=o.part f 1099511627776 t.g 10000
  let h0:=o.part g0.2 1099511627776 t.h 10000
  let y:=o.div h0.2 d 401596622045184
  let a:=o.part y.2 1099511627776 t.a 10000
  let p:=o.mul a.2 y.1 a.1
  let g:=o.add p.2 g0.1 p.1
  let b:=o.part g.2 1099511627776 t.b 10000
  let q:=o.mul b.2 y.1 b.1
  let h:=o.add q.2 h0.1 q.1
  bif t.low then (⟨g.1,h.1⟩,h.2) else (⟨g0.1,h0.1⟩,h0.2)
def numO (o : Ops) (dy : Bool→Int × Unit→Int × Bool) (b : Bool) (p : Int × Int × Int × Unit) : Two Int Int × Bool :=
  bif (dy b (p.2.2.1,())).2 then (⟨0,0⟩,(dy b (p.2.2.1,())).2) else numAt o (tabOf p.1 p.2.1) (dy b (p.2.2.1,())).1 (dy b (p.2.2.1,())).2
def preNum (p : Int × Int × Int × Unit) : Bool:=match p.1,p.2.1 with
  | .ofNat n,.ofNat m=>Nat.ble 1 n && (Nat.ble n 6 && Nat.ble m n)
  | _,_=>false
def numT (e : TypeId) (d : Int × Bool) (r : Two Int Int × Bool) : Option (AV × List Con):=bif d.2 then some (.val (Cod.enc (Two.mk (0 : Int) (0 : Int))),row e d.2) else some (.val (Cod.enc r.1),row e r.2)
section
variable (o : Ops) (dy : Bool→Int × Unit→Int × Bool) (b : Bool) (t : Int)
theorem num246_10 : fnSum Tryz.prog { gam:=(255,modelS) :: (213,S 57 dy) :: gamN o,loud:=[255] } [] 20 246 [.ptr 0 0,.val (.int .i64 1),.val (.int .i64 0),.val (.int .i64 t)] (row 57 b) = numT 57 (dy b (t,())) (numAt o (tabOf 1 0) (dy b (t,())).1 (dy b (t,())).2):=by kernel_rfl
theorem num246_11 : fnSum Tryz.prog { gam:=(255,modelS) :: (213,S 57 dy) :: gamN o,loud:=[255] } [] 20 246 [.ptr 0 0,.val (.int .i64 1),.val (.int .i64 1),.val (.int .i64 t)] (row 57 b) = numT 57 (dy b (t,())) (numAt o (tabOf 1 1) (dy b (t,())).1 (dy b (t,())).2):=by kernel_rfl
theorem num246_20 : fnSum Tryz.prog { gam:=(255,modelS) :: (213,S 57 dy) :: gamN o,loud:=[255] } [] 20 246 [.ptr 0 0,.val (.int .i64 2),.val (.int .i64 0),.val (.int .i64 t)] (row 57 b) = numT 57 (dy b (t,())) (numAt o (tabOf 2 0) (dy b (t,())).1 (dy b (t,())).2):=by kernel_rfl
theorem num246_21 : fnSum Tryz.prog { gam:=(255,modelS) :: (213,S 57 dy) :: gamN o,loud:=[255] } [] 20 246 [.ptr 0 0,.val (.int .i64 2),.val (.int .i64 1),.val (.int .i64 t)] (row 57 b) = numT 57 (dy b (t,())) (numAt o (tabOf 2 1) (dy b (t,())).1 (dy b (t,())).2):=by kernel_rfl
theorem num246_22 : fnSum Tryz.prog { gam:=(255,modelS) :: (213,S 57 dy) :: gamN o,loud:=[255] } [] 20 246 [.ptr 0 0,.val (.int .i64 2),.val (.int .i64 2),.val (.int .i64 t)] (row 57 b) = numT 57 (dy b (t,())) (numAt o (tabOf 2 2) (dy b (t,())).1 (dy b (t,())).2):=by kernel_rfl
theorem num246_30 : fnSum Tryz.prog { gam:=(255,modelS) :: (213,S 57 dy) :: gamN o,loud:=[255] } [] 20 246 [.ptr 0 0,.val (.int .i64 3),.val (.int .i64 0),.val (.int .i64 t)] (row 57 b) = numT 57 (dy b (t,())) (numAt o (tabOf 3 0) (dy b (t,())).1 (dy b (t,())).2):=by kernel_rfl
theorem num246_31 : fnSum Tryz.prog { gam:=(255,modelS) :: (213,S 57 dy) :: gamN o,loud:=[255] } [] 20 246 [.ptr 0 0,.val (.int .i64 3),.val (.int .i64 1),.val (.int .i64 t)] (row 57 b) = numT 57 (dy b (t,())) (numAt o (tabOf 3 1) (dy b (t,())).1 (dy b (t,())).2):=by kernel_rfl
theorem num246_32 : fnSum Tryz.prog { gam:=(255,modelS) :: (213,S 57 dy) :: gamN o,loud:=[255] } [] 20 246 [.ptr 0 0,.val (.int .i64 3),.val (.int .i64 2),.val (.int .i64 t)] (row 57 b) = numT 57 (dy b (t,())) (numAt o (tabOf 3 2) (dy b (t,())).1 (dy b (t,())).2):=by kernel_rfl
theorem num246_33 : fnSum Tryz.prog { gam:=(255,modelS) :: (213,S 57 dy) :: gamN o,loud:=[255] } [] 20 246 [.ptr 0 0,.val (.int .i64 3),.val (.int .i64 3),.val (.int .i64 t)] (row 57 b) = numT 57 (dy b (t,())) (numAt o (tabOf 3 3) (dy b (t,())).1 (dy b (t,())).2):=by kernel_rfl
theorem num246_40 : fnSum Tryz.prog { gam:=(255,modelS) :: (213,S 57 dy) :: gamN o,loud:=[255] } [] 20 246 [.ptr 0 0,.val (.int .i64 4),.val (.int .i64 0),.val (.int .i64 t)] (row 57 b) = numT 57 (dy b (t,())) (numAt o (tabOf 4 0) (dy b (t,())).1 (dy b (t,())).2):=by kernel_rfl
theorem num246_41 : fnSum Tryz.prog { gam:=(255,modelS) :: (213,S 57 dy) :: gamN o,loud:=[255] } [] 20 246 [.ptr 0 0,.val (.int .i64 4),.val (.int .i64 1),.val (.int .i64 t)] (row 57 b) = numT 57 (dy b (t,())) (numAt o (tabOf 4 1) (dy b (t,())).1 (dy b (t,())).2):=by kernel_rfl
theorem num246_42 : fnSum Tryz.prog { gam:=(255,modelS) :: (213,S 57 dy) :: gamN o,loud:=[255] } [] 20 246 [.ptr 0 0,.val (.int .i64 4),.val (.int .i64 2),.val (.int .i64 t)] (row 57 b) = numT 57 (dy b (t,())) (numAt o (tabOf 4 2) (dy b (t,())).1 (dy b (t,())).2):=by kernel_rfl
theorem num246_43 : fnSum Tryz.prog { gam:=(255,modelS) :: (213,S 57 dy) :: gamN o,loud:=[255] } [] 20 246 [.ptr 0 0,.val (.int .i64 4),.val (.int .i64 3),.val (.int .i64 t)] (row 57 b) = numT 57 (dy b (t,())) (numAt o (tabOf 4 3) (dy b (t,())).1 (dy b (t,())).2):=by kernel_rfl
theorem num246_44 : fnSum Tryz.prog { gam:=(255,modelS) :: (213,S 57 dy) :: gamN o,loud:=[255] } [] 20 246 [.ptr 0 0,.val (.int .i64 4),.val (.int .i64 4),.val (.int .i64 t)] (row 57 b) = numT 57 (dy b (t,())) (numAt o (tabOf 4 4) (dy b (t,())).1 (dy b (t,())).2):=by kernel_rfl
theorem num246_50 : fnSum Tryz.prog { gam:=(255,modelS) :: (213,S 57 dy) :: gamN o,loud:=[255] } [] 20 246 [.ptr 0 0,.val (.int .i64 5),.val (.int .i64 0),.val (.int .i64 t)] (row 57 b) = numT 57 (dy b (t,())) (numAt o (tabOf 5 0) (dy b (t,())).1 (dy b (t,())).2):=by kernel_rfl
theorem num246_51 : fnSum Tryz.prog { gam:=(255,modelS) :: (213,S 57 dy) :: gamN o,loud:=[255] } [] 20 246 [.ptr 0 0,.val (.int .i64 5),.val (.int .i64 1),.val (.int .i64 t)] (row 57 b) = numT 57 (dy b (t,())) (numAt o (tabOf 5 1) (dy b (t,())).1 (dy b (t,())).2):=by kernel_rfl
theorem num246_52 : fnSum Tryz.prog { gam:=(255,modelS) :: (213,S 57 dy) :: gamN o,loud:=[255] } [] 20 246 [.ptr 0 0,.val (.int .i64 5),.val (.int .i64 2),.val (.int .i64 t)] (row 57 b) = numT 57 (dy b (t,())) (numAt o (tabOf 5 2) (dy b (t,())).1 (dy b (t,())).2):=by kernel_rfl
theorem num246_53 : fnSum Tryz.prog { gam:=(255,modelS) :: (213,S 57 dy) :: gamN o,loud:=[255] } [] 20 246 [.ptr 0 0,.val (.int .i64 5),.val (.int .i64 3),.val (.int .i64 t)] (row 57 b) = numT 57 (dy b (t,())) (numAt o (tabOf 5 3) (dy b (t,())).1 (dy b (t,())).2):=by kernel_rfl
theorem num246_54 : fnSum Tryz.prog { gam:=(255,modelS) :: (213,S 57 dy) :: gamN o,loud:=[255] } [] 20 246 [.ptr 0 0,.val (.int .i64 5),.val (.int .i64 4),.val (.int .i64 t)] (row 57 b) = numT 57 (dy b (t,())) (numAt o (tabOf 5 4) (dy b (t,())).1 (dy b (t,())).2):=by kernel_rfl
theorem num246_55 : fnSum Tryz.prog { gam:=(255,modelS) :: (213,S 57 dy) :: gamN o,loud:=[255] } [] 20 246 [.ptr 0 0,.val (.int .i64 5),.val (.int .i64 5),.val (.int .i64 t)] (row 57 b) = numT 57 (dy b (t,())) (numAt o (tabOf 5 5) (dy b (t,())).1 (dy b (t,())).2):=by kernel_rfl
theorem num246_60 : fnSum Tryz.prog { gam:=(255,modelS) :: (213,S 57 dy) :: gamN o,loud:=[255] } [] 20 246 [.ptr 0 0,.val (.int .i64 6),.val (.int .i64 0),.val (.int .i64 t)] (row 57 b) = numT 57 (dy b (t,())) (numAt o (tabOf 6 0) (dy b (t,())).1 (dy b (t,())).2):=by kernel_rfl
theorem num246_61 : fnSum Tryz.prog { gam:=(255,modelS) :: (213,S 57 dy) :: gamN o,loud:=[255] } [] 20 246 [.ptr 0 0,.val (.int .i64 6),.val (.int .i64 1),.val (.int .i64 t)] (row 57 b) = numT 57 (dy b (t,())) (numAt o (tabOf 6 1) (dy b (t,())).1 (dy b (t,())).2):=by kernel_rfl
theorem num246_62 : fnSum Tryz.prog { gam:=(255,modelS) :: (213,S 57 dy) :: gamN o,loud:=[255] } [] 20 246 [.ptr 0 0,.val (.int .i64 6),.val (.int .i64 2),.val (.int .i64 t)] (row 57 b) = numT 57 (dy b (t,())) (numAt o (tabOf 6 2) (dy b (t,())).1 (dy b (t,())).2):=by kernel_rfl
theorem num246_63 : fnSum Tryz.prog { gam:=(255,modelS) :: (213,S 57 dy) :: gamN o,loud:=[255] } [] 20 246 [.ptr 0 0,.val (.int .i64 6),.val (.int .i64 3),.val (.int .i64 t)] (row 57 b) = numT 57 (dy b (t,())) (numAt o (tabOf 6 3) (dy b (t,())).1 (dy b (t,())).2):=by kernel_rfl
theorem num246_64 : fnSum Tryz.prog { gam:=(255,modelS) :: (213,S 57 dy) :: gamN o,loud:=[255] } [] 20 246 [.ptr 0 0,.val (.int .i64 6),.val (.int .i64 4),.val (.int .i64 t)] (row 57 b) = numT 57 (dy b (t,())) (numAt o (tabOf 6 4) (dy b (t,())).1 (dy b (t,())).2):=by kernel_rfl
theorem num246_65 : fnSum Tryz.prog { gam:=(255,modelS) :: (213,S 57 dy) :: gamN o,loud:=[255] } [] 20 246 [.ptr 0 0,.val (.int .i64 6),.val (.int .i64 5),.val (.int .i64 t)] (row 57 b) = numT 57 (dy b (t,())) (numAt o (tabOf 6 5) (dy b (t,())).1 (dy b (t,())).2):=by kernel_rfl
theorem num246_66 : fnSum Tryz.prog { gam:=(255,modelS) :: (213,S 57 dy) :: gamN o,loud:=[255] } [] 20 246 [.ptr 0 0,.val (.int .i64 6),.val (.int .i64 6),.val (.int .i64 t)] (row 57 b) = numT 57 (dy b (t,())) (numAt o (tabOf 6 6) (dy b (t,())).1 (dy b (t,())).2):=by kernel_rfl
end
theorem numT_eq (e : TypeId) (d : Int × Bool) (r : Two Int Int × Bool) : numT e d r = some (.val (Cod.enc (bif d.2 then ((⟨0,0⟩ : Two Int Int),d.2) else r).1),row e (bif d.2 then ((⟨0,0⟩ : Two Int Int),d.2) else r).2):=by
  unfold numT
  cases d.2 <;> rfl
theorem num_cases {n m : Int} {t : Int} (h : preNum (n,m,t,()) = true) : ∃ i j : Nat,n = i ∧ m = j ∧ 1 ≤ i ∧ i ≤ 6 ∧ j ≤ i:=by
  unfold preNum at h
  split at h
  · rename_i a b h1 h2
    simp only [Bool.and_eq_true,Nat.ble_eq] at h
    exact ⟨a,b,h1,h2,h.1,h.2.1,h.2.2⟩
  · cases h
def numV : Bool→Int × Int × Int × Unit→Two Int Int × Bool:=numO opsF (vdays opsF)
theorem okNum246 : SumOk Tryz.prog 246 (Sc 57 preNum numV):=Sc_ok (E:={ gam:=(255,modelS) :: (213,S 57 (vdays opsF)) :: gamN opsF,loud:=[255] }) (.cons okModel (.cons ok38 gamN_ok)) 20 fun b p hp=>by
  obtain ⟨n,m,t,u⟩:=p
  obtain ⟨i,j,rfl,rfl,h1,h2,h3⟩:=num_cases hp
  match i,j,h1,h2,h3 with
  | 1,0,_,_,_=>exact (num246_10 opsF (vdays opsF) b t).trans (numT_eq ..)
  | 1,1,_,_,_=>exact (num246_11 opsF (vdays opsF) b t).trans (numT_eq ..)
  | 2,0,_,_,_=>exact (num246_20 opsF (vdays opsF) b t).trans (numT_eq ..)
  | 2,1,_,_,_=>exact (num246_21 opsF (vdays opsF) b t).trans (numT_eq ..)
  | 2,2,_,_,_=>exact (num246_22 opsF (vdays opsF) b t).trans (numT_eq ..)
  | 3,0,_,_,_=>exact (num246_30 opsF (vdays opsF) b t).trans (numT_eq ..)
  | 3,1,_,_,_=>exact (num246_31 opsF (vdays opsF) b t).trans (numT_eq ..)
  | 3,2,_,_,_=>exact (num246_32 opsF (vdays opsF) b t).trans (numT_eq ..)
  | 3,3,_,_,_=>exact (num246_33 opsF (vdays opsF) b t).trans (numT_eq ..)
  | 4,0,_,_,_=>exact (num246_40 opsF (vdays opsF) b t).trans (numT_eq ..)
  | 4,1,_,_,_=>exact (num246_41 opsF (vdays opsF) b t).trans (numT_eq ..)
  | 4,2,_,_,_=>exact (num246_42 opsF (vdays opsF) b t).trans (numT_eq ..)
  | 4,3,_,_,_=>exact (num246_43 opsF (vdays opsF) b t).trans (numT_eq ..)
  | 4,4,_,_,_=>exact (num246_44 opsF (vdays opsF) b t).trans (numT_eq ..)
  | 5,0,_,_,_=>exact (num246_50 opsF (vdays opsF) b t).trans (numT_eq ..)
  | 5,1,_,_,_=>exact (num246_51 opsF (vdays opsF) b t).trans (numT_eq ..)
  | 5,2,_,_,_=>exact (num246_52 opsF (vdays opsF) b t).trans (numT_eq ..)
  | 5,3,_,_,_=>exact (num246_53 opsF (vdays opsF) b t).trans (numT_eq ..)
  | 5,4,_,_,_=>exact (num246_54 opsF (vdays opsF) b t).trans (numT_eq ..)
  | 5,5,_,_,_=>exact (num246_55 opsF (vdays opsF) b t).trans (numT_eq ..)
  | 6,0,_,_,_=>exact (num246_60 opsF (vdays opsF) b t).trans (numT_eq ..)
  | 6,1,_,_,_=>exact (num246_61 opsF (vdays opsF) b t).trans (numT_eq ..)
  | 6,2,_,_,_=>exact (num246_62 opsF (vdays opsF) b t).trans (numT_eq ..)
  | 6,3,_,_,_=>exact (num246_63 opsF (vdays opsF) b t).trans (numT_eq ..)
  | 6,4,_,_,_=>exact (num246_64 opsF (vdays opsF) b t).trans (numT_eq ..)
  | 6,5,_,_,_=>exact (num246_65 opsF (vdays opsF) b t).trans (numT_eq ..)
  | 6,6,_,_,_=>exact (num246_66 opsF (vdays opsF) b t).trans (numT_eq ..)
  | 0,_,h1,_,_=>omega
  | 1,k + 2,_,_,h3=>omega
  | 2,k + 3,_,_,h3=>omega
  | 3,k + 4,_,_,h3=>omega
  | 4,k + 5,_,_,h3=>omega
  | 5,k + 6,_,_,h3=>omega
  | 6,k + 7,_,_,h3=>omega
  | k + 7,_,_,h2,_=>omega
end Go.Ab
