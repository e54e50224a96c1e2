/- A part of the proof of 'CraftHolds': lemmas, no statement of their own; no condition. -/
import Derived.Test.YtoocjipllmkjcaaGreatGQtC
namespace Go.Ab
open Go Go.Proofs
def X1q(o:Ops)(m:M9)(f:Bool):V3×Bool :=
 let x:=o.sub f m.b.z m.c.y
 let y:=o.sub x.2 m.c.x m.a.z
 let z:=o.sub y.2 m.a.y m.b.x
 (⟨x.1,y.1,z.1⟩,z.2)
def fmL(o:Ops)(un:Bool→V4×Unit→V4×Bool)(m:M9)(t:Int)(f:Bool):V4×Bool :=
 let r:=X1q o m f
 let w:=o.add r.2 1099511627776 t
 un w.2 (⟨r.1.x,r.1.y,r.1.z,w.1⟩,())
def fmD(o:Ops)(f:Bool)(p q r:Int):Int×Bool :=
 let a:=o.add f 1099511627776 p
 let b:=o.sub a.2 a.1 q
 o.sub b.2 b.1 r
def fm0(o:Ops)(un:Bool→V4×Unit→V4×Bool)(m:M9)(f:Bool):V4×Bool :=
 let r:=X1q o m f
 let d:=fmD o r.2 m.a.x m.b.y m.c.z
 let j:=o.add d.2 m.a.y m.b.x
 let k:=o.add j.2 m.a.z m.c.x
 un k.2 (⟨d.1,j.1,k.1,r.1.x⟩,())
def fm1(o:Ops)(un:Bool→V4×Unit→V4×Bool)(m:M9)(f:Bool):V4×Bool :=
 let r:=X1q o m f
 let d:=fmD o r.2 m.b.y m.c.z m.a.x
 let j:=o.add d.2 m.b.z m.c.y
 let k:=o.add j.2 m.b.x m.a.y
 un k.2 (⟨k.1,d.1,j.1,r.1.y⟩,())
def fm2(o:Ops)(un:Bool→V4×Unit→V4×Bool)(m:M9)(f:Bool):V4×Bool :=
 let r:=X1q o m f
 let d:=fmD o r.2 m.c.z m.a.x m.b.y
 let j:=o.add d.2 m.c.x m.a.z
 let k:=o.add j.2 m.c.y m.b.z
 un k.2 (⟨j.1,k.1,d.1,r.1.z⟩,())
def fmT(o:Ops)(m:M9)(b:Bool):Int×Bool:=o.add (o.add b m.a.x m.b.y).2 (o.add b m.a.x m.b.y).1 m.c.z
def G3w(o:Ops)(r:V3)(f:Bool):Bool:=(P0e f (fun b=>o.add b r.x 0) (fun b=>o.add b r.y 0) (fun b=>o.add b r.z 0)).2
def fmF(o:Ops)(m:M9)(b:Bool):Bool:=G3w o m.c (G3w o m.b (G3w o m.a (fmT o m b).2))
def N1k{α:Type}(m:M9)(t:Int)(l k0 k1 k2:α):α :=
 bif decide (m.a.x>t) then (bif decide (m.b.y>m.a.x) then (bif decide (m.c.z>m.b.y) then k2 else k1) else (bif decide (m.c.z>m.a.x) then k2 else k0))
 else (bif decide (m.b.y>t) then (bif decide (m.c.z>m.b.y) then k2 else k1) else (bif decide (m.c.z>t) then k2 else l))
def H0t(o:Ops)(un:Bool→V4×Unit→V4×Bool)(b:Bool)(p:M9×Unit):V4×Bool :=
 bif fmF o p.1 b then (V4.zero,fmF o p.1 b) else
  N1k p.1 (fmT o p.1 b).1 (fmL o un p.1 (fmT o p.1 b).1 (fmF o p.1 b)) (fm0 o un p.1 (fmF o p.1 b)) (fm1 o un p.1 (fmF o p.1 b)) (fm2 o un p.1 (fmF o p.1 b))
def sayR{ω:Type}[Cod ω](e:TypeId)(r:ω×Bool):Option (AV×List Con):=some (.val (Cod.enc r.1),row e r.2)
def G2e(o:Ops)(un:Bool→V4×Unit→V4×Bool)(e:TypeId)(b:Bool)(m:M9):Option (AV×List Con) :=
 bif fmF o m b then sayR e (V4.zero,fmF o m b) else
  N1k m (fmT o m b).1 (sayR e (fmL o un m (fmT o m b).1 (fmF o m b))) (sayR e (fm0 o un m (fmF o m b))) (sayR e (fm1 o un m (fmF o m b))) (sayR e (fm2 o un m (fmF o m b)))
theorem G2g(o:Ops)(un:Bool→V4×Unit→V4×Bool)(e:TypeId)(b:Bool)(m:M9):G2e o un e b m=some (.val (Cod.enc (H0t o un b (m,())).1),row e (H0t o un b (m,())).2):=by
 unfold G2e H0t N1k sayR
 dsimp only
 generalize (fmT o m b).1=t
 cases fmF o m b<;>cases decide (m.a.x>t)<;>cases decide (m.b.y>m.a.x)<;>cases decide (m.c.z>m.b.y)<;>cases decide (m.c.z>m.a.x)<;>cases decide (m.b.y>t)<;>cases decide (m.c.z>t)<;>rfl
theorem C4v(o:Ops)(un:Bool→V4×Unit→V4×Bool)(b:Bool)(m:M9):fnSum Tryz.prog {gam:=(133,S 57 un) :: (146,S 57 (vop o.add)) :: gamN o} [] 20 228 [.ptr 0 0,.val (Cod.enc m)] (row 57 b)=G2e o un 57 b m:=by kernel_rfl
end Go.Ab
