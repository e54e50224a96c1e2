/- A part of the proofs: lemmas, no statement of their own; no condition. -/
import Derived.Test.YtoocjipllmkjcaaGreatTrA
import Derived.Test.YtoocjipllmkjcaaGreatGFuC0
import Derived.Test.YtoocjipllmkjcaaGreatGMaA
import Derived.Test.YtoocjipllmkjcaaGreatGFrK
import Derived.Test.YtoocjipllmkjcaaGreatGMtC
import Derived.Test.YtoocjipllmkjcaaGreatGFrC
namespace Go.Ab
open Go Go.Proofs
structure P2 where
 a:V3
 b:V3
instance:Cod P2 where
 enc m:=.agg #[.int .i64 m.a.x,.int .i64 m.a.y,.int .i64 m.a.z,.int .i64 m.b.x,.int .i64 m.b.y,.int .i64 m.b.z]
 dec v:=match v with | .agg ⟨[.int .i64 a,.int .i64 b,.int .i64 c,.int .i64 d,.int .i64 e,.int .i64 f]⟩=>some ⟨⟨a,b,c⟩,⟨d,e,f⟩⟩ | _=>none
 law v a h:=by split at h<;>simp_all;subst h;simp
theorem H3d:GamOk Tryz.prog ((133,S 57 (E0p opsF)) :: (146,S 57 (vop opsF.add)) :: gamN opsF):=.cons ok72 (.cons ok50 A0u)
theorem H5u:A0h Tryz.prog 228 (S 57 (H0t opsF (E0p opsF))):=S_ok H3d 20 fun b a=>(C4v opsF (E0p opsF) b a.1).trans (G2g opsF (E0p opsF) 57 b a.1)
def apart(pa:Bool→V3×V3×Unit→Two Int Int×Bool)(b:Bool)(p:V3×V3×Unit):Bool×Bool :=
 (bif !(pa b p).2 then decide ((pa b p).1.a≥190928190487) else false,(pa b p).2)
theorem D3x(pa:Bool→V3×V3×Unit→Two Int Int×Bool)(b:Bool)(x y:V3):fnSum Tryz.prog {gam:=[(222,S 57 pa)]} [] 20 172 [.ptr 0 0,.val (Cod.enc x),.val (Cod.enc y)] (row 57 b) =
  bif !(pa b (x,y,())).2 then some (.val (.bool (decide ((pa b (x,y,())).1.a≥190928190487))),row 57 (pa b (x,y,())).2) else some (.val (.bool false),row 57 (pa b (x,y,())).2):=by kernel_rfl
theorem ok96:A0h Tryz.prog 172 (S 57 (apart (H0r E0b))):=S_ok (E:={gam:=[(222,S 57 (H0r E0b))]}) (.cons ok74 .nil) 20 fun b a=>by
 refine (D3x (H0r E0b) b a.1 a.2.1).trans ?_
 unfold apart
 generalize (H0r E0b b a)=r
 obtain ⟨_,f⟩:=r
 cases f<;>rfl
def frame(v:VOps)(b:Bool)(p:P2×Unit):M9×Bool :=
 let u:=v.unit b (p.1.a,())
 let w:=v.unit u.2 (p.1.b,())
 let c:=v.cross w.2 (u.1,w.1,())
 let n:=v.unit c.2 (c.1,())
 let x:=v.cross n.2 (u.1,n.1,())
 (⟨u.1,n.1,x.1⟩,x.2)
theorem V2n(v:VOps)(b:Bool)(p:P2):fnSum Tryz.prog {gam:=gamV v} [] 20 227 [.ptr 0 0,.val (Cod.enc p)] (row 57 b)=some (.val (Cod.enc (frame v b (p,())).1),row 57 (frame v b (p,())).2):=by kernel_rfl
theorem J5e:A0h Tryz.prog 227 (S 57 (frame E0b)):=S_ok J1y 20 fun b a=>V2n E0b b a.1
def M9.c0(m:M9):V3:=⟨m.a.x,m.b.x,m.c.x⟩
def M9.c1(m:M9):V3:=⟨m.a.y,m.b.y,m.c.y⟩
def M9.c2(m:M9):V3:=⟨m.a.z,m.b.z,m.c.z⟩
def entP(o:Ops)(f:Bool)(x y:V3):Int×Bool :=
 let m:=o.mul f x.x y.x
 let a:=o.add m.2 0 m.1
 let n:=o.mul a.2 x.y y.y
 let b:=o.add n.2 a.1 n.1
 let k:=o.mul b.2 x.z y.z
 o.add k.2 b.1 k.1
def Q3p(ent:Bool→V3→V3→Int×Bool)(x:V3)(s:M9)(f:Bool):V3×Bool:=P0e f (fun b=>ent b x s.c0) (fun b=>ent b x s.c1) (fun b=>ent b x s.c2)
def G5r(ent:Bool→V3→V3→Int×Bool)(t s:M9)(f:Bool):M9×Bool :=
 let a:=Q3p ent t.c0 s f
 let b:=Q3p ent t.c1 s a.2
 let c:=Q3p ent t.c2 s b.2
 (⟨a.1,b.1,c.1⟩,c.2)
def H1w(ent:Bool→V3→V3→Int×Bool)(fr:Bool→P2×Unit→M9×Bool)(fm:Bool→M9×Unit→V4×Bool)(sky body:P2)(f:Bool):V4×Bool :=
 let s:=fr f (sky,())
 let t:=fr s.2 (body,())
 let m:=G5r ent t.1 s.1 t.2
 fm m.2 (m.1,())
theorem V4v(o:Ops)(ap:Bool→V3×V3×Unit→Bool×Bool)(fr:Bool→P2×Unit→M9×Bool)(fm:Bool→M9×Unit→V4×Bool)(b:Bool)(sky body:P2) :
  fnSum Tryz.prog {gam:=(172,S 57 ap) :: (227,S 57 fr) :: (228,S 57 fm) :: gamN o} [] 20 174 [.ptr 0 0,.val (Cod.enc sky),.val (Cod.enc body)] (row 57 b) =
   let a:=ap b (sky.a,sky.b,());let c:=ap a.2 (body.a,body.b,())
   bif !a.1 then sayR 57 (V4.zero,true) else bif !c.1 then sayR 57 (V4.zero,true) else sayR 57 (H1w (entP o) fr fm sky body c.2):=by kernel_rfl
def G0q(b:Bool)(p:P2×P2×Unit):V4×Bool :=
 let a:=apart (H0r E0b) b (p.1.a,p.1.b,());let c:=apart (H0r E0b) a.2 (p.2.1.a,p.2.1.b,())
 bif !a.1 then (V4.zero,true) else bif !c.1 then (V4.zero,true) else H1w (entP opsF) (frame E0b) (H0t opsF (E0p opsF)) p.1 p.2.1 c.2
theorem X1b{ω:Type}[Cod ω]{e:TypeId}{c:Bool}{x y:ω×Bool}:(bif c then sayR e x else sayR e y)=sayR e (bif c then x else y):=by cases c<;>rfl
theorem ok98:A0h Tryz.prog 174 (S 57 G0q):=by
 refine S_ok (E:={gam:=(172,S 57 (apart (H0r E0b))) :: (227,S 57 (frame E0b)) :: (228,S 57 (H0t opsF (E0p opsF))) :: gamN opsF}) (.cons ok96 (.cons J5e (.cons H5u A0u))) 20 fun b a=>?_
 refine (V4v opsF (apart (H0r E0b)) (frame E0b) (H0t opsF (E0p opsF)) b a.1 a.2.1).trans ?_
 dsimp only
 rw[X1b,X1b]
 rfl
class CodL (α:Type) where
 encl:α→List Value
 decl:List Value→Option (α×List Value)
 law:∀l a r,decl l=some (a,r)→l=encl a++r
instance:CodL Int where
 encl x:=[.int .i64 x]
 decl l:=match l with | .int .i64 x :: r=>some (x,r) | _=>none
 law l a r h:=by split at h<;>simp_all
instance:CodL Bool where
 encl x:=[.bool x]
 decl l:=match l with | .bool x :: r=>some (x,r) | _=>none
 law l a r h:=by split at h<;>simp_all
instance:CodL ByteArray where
 encl x:=[.string x]
 decl l:=match l with | .string x :: r=>some (x,r) | _=>none
 law l a r h:=by split at h<;>simp_all
instance {α β:Type} [CodL α] [CodL β]:CodL (α×β) where
 encl p:=CodL.encl p.1++CodL.encl p.2
 decl l:=match CodL.decl (α:=α) l with
  | some (a,r)=>(match CodL.decl (α:=β) r with
   | some (b,t)=>some ((a,b),t)
   | none=>none)
  | none=>none
 law l a r h:=by
  split at h
  ·rename_i x y hx
   split at h
   ·rename_i z t hz
    cases h
    rw[CodL.law _ _ _ hx,CodL.law _ _ _ hz,List.append_assoc]
   ·cases h
  ·cases h
abbrev M0h{α β:Type}[CodL β](to:α→β)(of:β→α)(h:∀b,to (of b)=b):CodL α where
 encl a:=CodL.encl (to a)
 decl l:=match CodL.decl (α:=β) l with | some (b,r)=>some (of b,r) | none=>none
 law l a r hh:=by
  split at hh
  ·rename_i b t hb
   cases hh
   rw[h,CodL.law _ _ _ hb]
  ·cases hh
instance:CodL V3:=M0h (β:=Int×Int×Int) (fun v=>(v.x,v.y,v.z)) (fun p=>⟨p.1,p.2.1,p.2.2⟩) fun _=>rfl
instance:CodL V4:=M0h (β:=Int×Int×Int×Int) (fun v=>(v.w,v.x,v.y,v.z)) (fun p=>⟨p.1,p.2.1,p.2.2.1,p.2.2.2⟩) fun _=>rfl
instance:CodL R6:=M0h (β:=Int×Int×Int×Int×Int×Int) (fun v=>(v.a,v.b,v.c,v.d,v.e,v.f)) (fun p=>⟨p.1,p.2.1,p.2.2.1,p.2.2.2.1,p.2.2.2.2.1,p.2.2.2.2.2⟩) fun _=>rfl
instance:CodL M6:=M0h (β:=R6×R6×R6×R6×R6×R6) (fun v=>(v.a,v.b,v.c,v.d,v.e,v.f)) (fun p=>⟨p.1,p.2.1,p.2.2.1,p.2.2.2.1,p.2.2.2.2.1,p.2.2.2.2.2⟩) fun _=>rfl
instance:CodL Gs:=M0h (β:=V4×V3×M6) (fun v=>(v.q,v.bias,v.p)) (fun p=>⟨p.1,p.2.1,p.2.2⟩) fun _=>rfl
instance:CodL Pl:=M0h (β:=Int×Int×Int×Int×Int×Int) (fun v=>(v.mode,v.calm,v.good,v.miss,v.lost,v.faults)) (fun p=>⟨p.1,p.2.1,p.2.2.1,p.2.2.2.1,p.2.2.2.2.1,p.2.2.2.2.2⟩) fun _=>rfl
instance:CodL Sn:=M0h (β:=Bool×Bool×Bool×Bool×Bool×Bool×Bool×Int) (fun v=>(v.gap,v.gyro,v.slow,v.pair,v.lit,v.bad,v.pass,v.order)) (fun p=>⟨p.1,p.2.1,p.2.2.1,p.2.2.2.1,p.2.2.2.2.1,p.2.2.2.2.2.1,p.2.2.2.2.2.2.1,p.2.2.2.2.2.2.2⟩) fun _=>rfl
instance:CodL P2:=M0h (β:=V3×V3) (fun v=>(v.a,v.b)) (fun p=>⟨p.1,p.2⟩) fun _=>rfl
instance:CodL Orb:=M0h (β:=Int×Int×Int×Int×Int×Int×Int) (fun v=>(v.a,v.e,v.i,v.node,v.peri,v.m,v.tk)) (fun p=>⟨p.1,p.2.1,p.2.2.1,p.2.2.2.1,p.2.2.2.2.1,p.2.2.2.2.2.1,p.2.2.2.2.2.2⟩) fun _=>rfl
instance:CodL Dr:=M0h (β:=Bool×Int×V3×V3) (fun v=>(v.on,v.tick,v.last,v.rate)) (fun p=>⟨p.1,p.2.1,p.2.2.1,p.2.2.2⟩) fun _=>rfl
structure Crf where
 on:Bool
 tk:Int
 left:ByteArray
 plan:Pl
 placed:Bool
 orb:Orb
 drift:Dr
 guess:Gs
 ack:Int
 err:Int
 rej:Int
instance:CodL Crf:=M0h (β:=Bool×Int×ByteArray×Pl×Bool×Orb×Dr×Gs×Int×Int×Int) (fun v=>(v.on,v.tk,v.left,v.plan,v.placed,v.orb,v.drift,v.guess,v.ack,v.err,v.rej))
 (fun p=>⟨p.1,p.2.1,p.2.2.1,p.2.2.2.1,p.2.2.2.2.1,p.2.2.2.2.2.1,p.2.2.2.2.2.2.1,p.2.2.2.2.2.2.2.1,p.2.2.2.2.2.2.2.2.1,p.2.2.2.2.2.2.2.2.2.1,p.2.2.2.2.2.2.2.2.2.2⟩) fun _=>rfl
structure Rdg where
 kind:Int
 tk:Int
 v:V3
instance:CodL Rdg:=M0h (β:=Int×Int×V3) (fun v=>(v.kind,v.tk,v.v)) (fun p=>⟨p.1,p.2.1,p.2.2⟩) fun _=>rfl
structure Rds where
 p1:Bool
 r1:Rdg
 p2:Bool
 r2:Rdg
 p3:Bool
 r3:Rdg
structure Stp where
 tk:Int
 gap:Int
 sky:P2
 body:P2
 seen:Sn
def rdgV(r:Rdg):Value:=.agg (List.toArray (CodL.encl r))
def P2y(r:Rds):List Value:=[.int .i64 1,.bool r.p1,rdgV r.r1,.int .i64 2,.bool r.p2,rdgV r.r2,.int .i64 3,.bool r.p3,rdgV r.r3]
def H1a(r:Rds):Obj:=.chan 1 (List.toArray (P2y r)) false 0 0 false
def Z1c(s:Stp):List AV:=.ptr 1 0 :: .val (.int .i64 s.tk) :: .val (.int .i64 s.gap) :: .map 2 :: ((CodL.encl s.sky++(CodL.encl s.body++CodL.encl s.seen)).map AV.val)
def C0x(c:Crf):List AV:=(CodL.encl c).map AV.val
def R0w(s:Stp)(c:Crf)(r:Rds):List Con:=[.row 145 (Z1c s),.row 44 (C0x c),.obj (H1a r)]
def X0u:AV:=.val (.tuple (List.toArray []))
def rejV(n:Int):Int:=IntKind.i64.wrap ((if (65534:Int)<n then 65534 else n)+1)
theorem Q2d(s:Stp)(c:Crf)(r:Rds):fnSum Tryz.prog {gam:=[]} [] 20 163 [.ptr 0 0] (R0w s c r)=some (X0u,R0w s {c with rej:=rejV c.rej} r):=by kernel_rfl
abbrev CX:=Stp×Crf×Rds
def stpX(x:CX):List Con:=R0w x.1 x.2.1 x.2.2
def C2d:Value:=.tuple (List.toArray [])
def unV:List AV→Option (List Value)
 | []=>some []
 | .val v :: r=>match unV r with
  | some l=>some (v :: l)
  | none=>none
 | _ :: _=>none
theorem T2h:∀(l:List AV) (vs:List Value),unV l=some vs→l=vs.map AV.val
 | [],vs,h=>by simp only[unV,Option.some.injEq]at h;subst h;rfl
 | a :: r,vs,h=>by
  cases a with
  | val v =>
   simp only[unV]at h
   cases hr:unV r with
   | none=>rw[hr]at h;cases h
   | some l =>
    rw[hr]at h
    simp only[Option.some.injEq]at h
    subst h
    rw[T2h r l hr]
    rfl
  | _=>simp[unV]at h
def Z0v(α:Type)[CodL α](l:List Value):Option α:=match CodL.decl (α:=α) l with
 | some (a,[])=>some a
 | _=>none
theorem M0j{α:Type}[CodL α]{l:List Value}{a:α}(h:Z0v α l=some a):l=CodL.encl a:=by
 unfold Z0v at h
 split at h
 ·rename_i x hx
  cases h
  have :=CodL.law _ _ _ hx
  rw[this,List.append_nil]
 ·cases h
def X1g(α:Type)[CodL α](l:List AV):Option α:=match unV l with
 | some vs=>Z0v α vs
 | none=>none
theorem E1j{α:Type}[CodL α]{l:List AV}{a:α}(h:X1g α l=some a):l=(CodL.encl a).map AV.val:=by
 unfold X1g at h
 split at h
 ·rename_i vs hv
  rw[T2h _ _ hv,M0j h]
 ·cases h
def Z0w:List AV→Option Stp
 | .ptr 1 0 :: .val (.int .i64 tk) :: .val (.int .i64 gap) :: .map 2 :: r=>match X1g (P2×P2×Sn) r with
  | some p=>some ⟨tk,gap,p.1,p.2.1,p.2.2⟩
  | none=>none
 | _=>none
theorem J1a{l:List AV}{s:Stp}(h:Z0w l=some s):l=Z1c s:=by
 unfold Z0w at h
 split at h
 ·split at h
  ·rename_i p hp
   cases h
   rw[E1j hp]
   rfl
  ·cases h
 ·cases h
def M1z:Value→Option Rdg
 | .agg a=>Z0v Rdg a.toList
 | _=>none
theorem W0h{v:Value}{r:Rdg}(h:M1z v=some r):v=rdgV r:=by
 unfold M1z at h
 split at h
 ·rename_i a
  have :=M0j h
  unfold rdgV
  rw[← this]
 ·cases h
def E2d:List Value→Option Rds
 | [.int .i64 1,.bool p1,v1,.int .i64 2,.bool p2,v2,.int .i64 3,.bool p3,v3]=>match M1z v1,M1z v2,M1z v3 with
  | some a,some b,some c=>some ⟨p1,a,p2,b,p3,c⟩
  | _,_,_=>none
 | _=>none
theorem Z1t{l:List Value}{r:Rds}(h:E2d l=some r):l=P2y r:=by
 unfold E2d at h
 split at h
 ·split at h
  ·rename_i a b c h1 h2 h3
   cases h
   rw[W0h h1,W0h h2,W0h h3]
   rfl
  ·cases h
 ·cases h
def E2e:List Con→Option CX
 | [.row e sr,.row e' cr,.obj (.chan 1 buf false 0 0 false)]=>match Nat.beq e 145,Nat.beq e' 44,Z0w sr,X1g Crf cr,E2d buf.toList with
  | true,true,some s,some c,some r=>some (s,c,r)
  | _,_,_,_,_=>none
 | _=>none
theorem Z1u{cs:List Con}{x:CX}(h:E2e cs=some x):cs=stpX x:=by
 unfold E2e at h
 split at h
 ·rename_i e sr e' cr buf
  split at h
  ·rename_i s c r h1 h2 h3 h4 h5
   cases h
   rw[Nat.eq_of_beq_eq_true h1,Nat.eq_of_beq_eq_true h2,J1a h3,E1j h4]
   have:buf=List.toArray (P2y r):=by rw[← Z1t h5]
   rw[this]
   rfl
  ·cases h
 ·cases h
variable {α:Type} [Args α]
def SM(pre:CX→α→Bool)(g:CX→α→Value×CX):D0c:=fun args cs=>match args with
 | .ptr 0 0 :: r=>match Args.decs (α:=α) r,E2e cs with
  | some a,some x=>.test (pre x a) (.ret (.val (g x a).1) (stpX (g x a).2)) .no
  | _,_=>.no
 | _=>.no
theorem B3d{pre:CX→α→Bool}{g:CX→α→Value×CX}{args:List AV}{cs cs':List Con}{r:AV}(h:(SM pre g args cs).sel=some (r,cs')) :
  ∃x a,pre x a=true∧args=.ptr 0 0 :: Args.encs a∧cs=stpX x∧r=.val (g x a).1∧cs'=stpX (g x a).2:=by
 unfold SM at h
 split at h
 ·split at h
  ·rename_i a x h1 h2
   simp only[STr.sel]at h
   cases hp:pre x a with
   | false=>rw[hp]at h;cases h
   | true =>
    rw[hp]at h
    simp only[cond_true,Option.some.injEq,Prod.mk.injEq]at h
    obtain ⟨rfl,rfl⟩:=h
    exact ⟨x,a,hp,by rw[Args.law _ _ h1],Z1u h2,rfl,rfl⟩
  ·simp[STr.sel]at h
 ·simp[STr.sel]at h
theorem C2w{P:Program}{E:Env}(hG:GamOk P E.gam){f:FuncId}{pre:CX→α→Bool}{g:CX→α→Value×CX}(d:Nat)
  (h:∀x a,pre x a=true→fnSum P E [] d f (.ptr 0 0 :: Args.encs a) (stpX x)=some (.val (g x a).1,stpX (g x a).2)):A0h P f (SM pre g):=by
 refine K0a hG fun args cs r cs' hs=>?_
 obtain ⟨x,a,hp,rfl,rfl,rfl,rfl⟩:=B3d hs
 exact ⟨by simp[stpX,R0w],d,h x a hp⟩
theorem D3r{ω:Type}[Cod ω]{P:Program}{f:FuncId}{g:α→ω}(h:A0h P f (S0w (fun _=>true) g)):A0h P f (S0 g):=by
 intro args cs r cs' hs
 refine h args cs r cs' ?_
 unfold S0 at hs
 unfold S0w
 split at hs
 ·split at hs
  ·rename_i a ha
   rw[ha]
   exact hs
  ·simp[STr.sel]at hs
 ·simp[STr.sel]at hs
theorem L0h(b:Bool)(x y:CX):(bif b then some (X0u,stpX x) else some (X0u,stpX y))=some (X0u,stpX (bif b then x else y)):=by cases b<;>rfl
def ySM(g:CX→CX):D0c:=SM (α:=Unit) (fun _ _=>true) fun x _=>(C2d,g x)
def rejX(x:CX):CX:=(x.1,{x.2.1 with rej:=rejV x.2.1.rej},x.2.2)
theorem Y1k:A0h Tryz.prog 163 (ySM rejX):=C2w (E:={gam:=[]}) GamOk.nil 20 fun x _ _=>Q2d x.1 x.2.1 x.2.2
end Go.Ab
namespace Go.Ab
open Go Go.Proofs
theorem Y1w(c:Int)(l:Mx):∀(J:List (Nat×Nat)) (X:Mx),(runJ opsF c l J (X,true)).2=true
 | [],X=>rfl
 | (i,k) :: r,X=>by
  simp only[runJ]
  have:opsF.mul true c (l i k)=(0,true):=rfl
  rw[this]
  exact Y1w c l r _
def Y2u(o:Ops)(J:List (Nat×Nat))(c:Int×Bool)(l:Mx):X13×Bool :=
 let r:=runJ o c.1 l J (mx0,c.2)
 (bif r.2 then x13z else N0r r.1,r.2)
def B1x(o:Ops)(rt:Bool→M6×Int×Unit→M6×Bool)(J:List (Nat×Nat))(b:Bool)(g:Gs):X13×Bool :=
 Y2u o J (o.sqrt (rt b (g.p,6,())).2 7696581394432) (rt b (g.p,6,())).1.at
theorem P2j(o:Ops)(rt:Bool→M6×Int×Unit→M6×Bool)(J:List (Nat×Nat))(e:TypeId)(b:Bool)(g:Gs) :
  V1n e (V1m o rt J b g)=some (.val (Cod.enc (B1x o rt J b g).1),row e (B1x o rt J b g).2):=by
 unfold B1x Y2u V1m V1n
 dsimp only
 generalize runJ o _ _ J _=r
 obtain ⟨X,f⟩:=r
 cases f<;>rfl
theorem K4h:A0h Tryz.prog 52 (S 57 fun b (p:Gs×Unit)=>B1x opsF (G0t opsF) H2r b p.1) :=
 S_ok (E:={gam:=(61,S 57 (G0t opsF)) :: gamN opsF}) (.cons ok64 A0u) 20 fun b a =>
  (P2h opsF (G0t opsF) b a.1).trans (P2j opsF (G0t opsF) H2r 57 b a.1)
theorem H5v:A0h Tryz.prog 48 (S0 fun (p:V4×Unit)=>start p.1):=H0n (E:={gam:=[]}) GamOk.nil 20 fun a=>Z2z a.1
theorem H5w:A0h Tryz.prog 50 (S 57 fun b (p:Gs×Unit)=>Z1a opsF b p.1):=S_ok A0u 20 fun b a=>R2a opsF b a.1
end Go.Ab
