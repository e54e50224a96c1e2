/- A part of the proof of 'CraftHolds': lemmas, no statement of their own; no condition. -/
import Derived.Test.YtoocjipllmkjcaaGreatFuA
namespace Go.Ab
open Go Go.Proofs
abbrev A4u(P:Program)(E:Env)(N:Nat)(c:Code)(s:St)(keep ts:List Nat):Option (Ex×St):=run P (B0v P E 4) N {quiet:=fun f=>B0p E.gam f&&!hasN E.loud f} [] 1000 (Ex×St) c s (fun e s=>some (e,G0k keep (E0d N ts) s))
theorem A2a{P:Program}{N:Nat}{E:Env}(hG:GamOk P E.gam){c:Code}{s s1:St}{e:Ex}{keep ts:List Nat}(h:A4u P E N c s keep ts=some (e,s1)):A0b P N c s e s1:=A0e (B0b hG 4) keep _ h
structure EOps where
 o:Ops
 vn:Bool→V3×Unit→Int×Bool
 rt:Int×Unit→Bool
 te:Bool→Int×Int×Unit→(Nat→Int)×Bool
 nm:Bool→Int×Int×Int×Unit→Two Int Int×Bool
abbrev eF(F:EOps):Env:={gam:=(137,S 57 F.vn) :: (87,S0 F.rt) :: (245,Z1d F.te) :: (246,Sc 57 Q1e F.nm) :: gamN F.o,loud:=[245]}
noncomputable def eaC:Code:=Tryz.f221.body.getD .skip
noncomputable def eaR:Nat→Code
 | 0=>eaC
 | n+1=>seqR (eaR n)
noncomputable def eaL(n:Nat):Code:=seqL (eaR n)
noncomputable def eaB0:Code:=seqR (eaL 11)
noncomputable def eaB:Code:=inB (inB eaB0)
def eaS1(p:V3)(tk r:Int)(f:Bool):St:=gSt 247 [(0,.ptr 0 0),(2,.val (.int .i64 tk)),(4,.ptr 4096 0),(6,.ptr (4096+1*2^180) 0),(7,.val (.int .i64 r))] [(0,.row 57 [.val (.bool f)]),(4096,.row 32 [.val (.int .i64 p.x),.val (.int .i64 p.y),.val (.int .i64 p.z)]),((4096+1*2^180),.row 32 [.val (.int .i64 0),.val (.int .i64 0),.val (.int .i64 0)])] (4096+2*2^180)
def eaZ(p:V3)(f:Bool)(lo:Nat):St:=gSt 247 [(6,.ptr (4096+1*2^180) 0)] [(0,.row 57 [.val (.bool f)]),((4096+1*2^180),.row 32 [.val (.int .i64 p.x),.val (.int .i64 p.y),.val (.int .i64 p.z)])] lo
def eaS7(p:V3)(tk r w c s:Int)(f:Bool):St:=gSt 247 [(0,.ptr 0 0),(2,.val (.int .i64 tk)),(4,.ptr 4096 0),(6,.ptr (4096+1*2^180) 0),(7,.val (.int .i64 r)),(8,.val (.int .i64 w)),(9,.val (.int .i64 c)),(10,.val (.int .i64 s)),(11,.val (.int .i64 1099511627776)),(12,.val (.int .i64 0))]
 [(0,.row 57 [.val (.bool f)]),(4096,.row 32 [.val (.int .i64 p.x),.val (.int .i64 p.y),.val (.int .i64 p.z)]),((4096+1*2^180),.row 32 [.val (.int .i64 0),.val (.int .i64 0),.val (.int .i64 0)])] (4096+2*2^180)
def eaS8(tk r c s u v:Int)(f:Bool):St:=gSt 247 [(0,.ptr 0 0),(2,.val (.int .i64 tk)),(6,.ptr (4096+1*2^180) 0),(7,.val (.int .i64 r)),(9,.val (.int .i64 c)),(10,.val (.int .i64 s)),(11,.val (.int .i64 u)),(12,.val (.int .i64 v))]
 [(0,.row 57 [.val (.bool f)]),((4096+1*2^180),.row 32 [.val (.int .i64 0),.val (.int .i64 0),.val (.int .i64 0)])] (4096+2*2^180)
structure EZ where
 t:Int
 up:Int
 so:Int
 ea:Int
 cs:Int
 sn:Int
def eaI(tk c s u v:Int)(T:Nat→Int)(ra:Int)(n:Nat)(z:EZ)(f:Bool):St:=gSt 247 [(0,.ptr 0 0),(2,.val (.int .i64 tk)),(6,.ptr (4096+1*2^180) 0),(9,.val (.int .i64 c)),(10,.val (.int .i64 s)),(11,.val (.int .i64 u)),(12,.val (.int .i64 v)),(13,.map (4096+2*2^180)),(14,.val (.int .i64 z.up)),(15,.val (.int .i64 z.so)),(16,.val (.int .i64 z.ea)),(17,.val (.int .i64 ra)),(18,.val (.int .i64 z.t)),(19,.val (kI n))]
 [(0,.row 57 [.val (.bool f)]),((4096+1*2^180),.row 32 [.val (.int .i64 0),.val (.int .i64 0),.val (.int .i64 0)]),((4096+2*2^180),.obj (D1a 7 T))] (4096+3*2^180)
def eaIn(o:Ops)(nm:Bool→Int×Int×Int×Unit→Two Int Int×Bool)(u v tk:Int)(T:Nat→Int)(n m:Nat)(z:EZ×Bool):EZ×Bool :=
 let g:=nm z.2 ((n:Int),(m:Int),tk,())
 let e1:=o.mul g.2 g.1.a z.1.cs
 let e2:=o.mul e1.2 g.1.b z.1.sn
 let ev:=o.add e2.2 e1.1 e2.1
 let o1:=o.mul ev.2 g.1.a z.1.sn
 let o2:=o.mul o1.2 g.1.b z.1.cs
 let od:=o.sub o2.2 o1.1 o2.1
 let u1:=o.mul od.2 ev.1 (T (ix n m))
 let u2:=o.mul u1.2 z.1.t u1.1
 let u3:=o.part u2.2 u2.1 ((n+1:Nat):Int) 1
 let up:=o.add u3.2 z.1.up u3.1
 let s1:=o.mul up.2 ev.1 (T (ix n m+1))
 let s2:=o.mul s1.2 z.1.t s1.1
 let so:=o.sub s2.2 z.1.so s2.1
 let a1:=o.mul so.2 od.1 (T (ix n m+2))
 let a2:=o.mul a1.2 z.1.t a1.1
 let a3:=o.part a2.2 a2.1 (m:Int) 1
 let ea:=o.add a3.2 z.1.ea a3.1
 let c1:=o.mul ea.2 z.1.cs u
 let c2:=o.mul c1.2 z.1.sn v
 let cs:=o.sub c2.2 c1.1 c2.1
 let c3:=o.mul cs.2 z.1.sn u
 let c4:=o.mul c3.2 z.1.cs v
 let sn:=o.add c4.2 c3.1 c4.1
 (⟨z.1.t,up.1,so.1,ea.1,cs.1,sn.1⟩,sn.2)
def Y3h(o:Ops)(nm:Bool→Int×Int×Int×Unit→Two Int Int×Bool)(u v tk:Int)(T:Nat→Int)(n:Nat):Nat→Nat→EZ×Bool→EZ×Bool
 | _,0,z=>z
 | m,k+1,z=>Y3h o nm u v tk T n (m+1) k (eaIn o nm u v tk T n m z)
def G3c(o:Ops)(ra:Int)(z:EZ×Bool):EZ×Bool:=(⟨(o.mul z.2 z.1.t ra).1,z.1.up,z.1.so,z.1.ea,1099511627776,0⟩,(o.mul z.2 z.1.t ra).2)
def C0b(o:Ops)(nm:Bool→Int×Int×Int×Unit→Two Int Int×Bool)(u v tk:Int)(T:Nat→Int)(ra:Int)(k:Nat)(z:EZ×Bool):EZ×Bool:=Y3h o nm u v tk T (k+1) 0 (k+2) (G3c o ra z)
section
variable (F:EOps) (p:V3) (tk r w c s u v ra:Int) (T:Nat→Int) (z:EZ) (f:Bool)
theorem Y4j:gRun Tryz.prog (eF F) 247 (eaL 0) (B0t 247 [.ptr 0 0,.val (Cod.enc p),.val (.int .i64 tk)] (row 57 f)) [0,4096,(4096+1*2^180)] [0,2,4,6]=some (.normal,gSt 247 [(0,.ptr 0 0),(2,.val (.int .i64 tk)),(4,.ptr 4096 0),(6,.ptr (4096+1*2^180) 0)] [(0,.row 57 [.val (.bool f)]),(4096,.row 32 [.val (.int .i64 p.x),.val (.int .i64 p.y),.val (.int .i64 p.z)]),((4096+1*2^180),.row 32 [.val (.int .i64 0),.val (.int .i64 0),.val (.int .i64 0)])] (4096+2*2^180)):=by kernel_rfl
theorem Y4k:gRun Tryz.prog (eF F) 247 (eaL 1) (gSt 247 [(0,.ptr 0 0),(2,.val (.int .i64 tk)),(4,.ptr 4096 0),(6,.ptr (4096+1*2^180) 0)] [(0,.row 57 [.val (.bool f)]),(4096,.row 32 [.val (.int .i64 p.x),.val (.int .i64 p.y),.val (.int .i64 p.z)]),((4096+1*2^180),.row 32 [.val (.int .i64 0),.val (.int .i64 0),.val (.int .i64 0)])] (4096+2*2^180)) [0,4096,(4096+1*2^180)] [0,2,4,6,7]=some (.normal,eaS1 p tk (F.vn f (p,())).1 (F.vn f (p,())).2):=by kernel_rfl
theorem Y4m:gRun Tryz.prog (eF F) 247 (eaL 2) (eaS1 p tk r f) [0,4096,(4096+1*2^180)] [0,2,4,6,7]=bif !F.rt (tk,()) then some (.normal,eaS1 p tk r true) else bif decide (r<6597069766656) then some (.normal,eaS1 p tk r true) else bif decide (r>10995116277760) then some (.normal,eaS1 p tk r true) else some (.normal,eaS1 p tk r f):=by kernel_rfl
theorem Y3v:gRun Tryz.prog (eF F) 247 (eaL 3) (eaS1 p tk r true) [0,(4096+1*2^180)] [6]=some (.ret,eaZ ⟨0,0,0⟩ true (4096+2*2^180)):=by kernel_rfl
theorem Y3u:gRun Tryz.prog (eF F) 247 (eaL 3) (eaS1 p tk r false) [0,4096,(4096+1*2^180)] [0,2,4,6,7]=some (.normal,eaS1 p tk r false):=by kernel_rfl
def eaW(F:EOps)(p:V3)(f:Bool):Int×Bool:=F.o.norm f p.x p.y 0
def eaCo(F:EOps)(p:V3)(r:Int)(w:Int×Bool):Int×Bool:=F.o.div w.2 p.z r
def eaSi(F:EOps)(r:Int)(w c:Int×Bool):Int×Bool:=F.o.div c.2 w.1 r
def eaS4(p:V3)(tk r w:Int)(f:Bool):St:=gSt 247 [(0,.ptr 0 0),(2,.val (.int .i64 tk)),(4,.ptr 4096 0),(6,.ptr (4096+1*2^180) 0),(7,.val (.int .i64 r)),(8,.val (.int .i64 w))]
 [(0,.row 57 [.val (.bool f)]),(4096,.row 32 [.val (.int .i64 p.x),.val (.int .i64 p.y),.val (.int .i64 p.z)]),((4096+1*2^180),.row 32 [.val (.int .i64 0),.val (.int .i64 0),.val (.int .i64 0)])] (4096+2*2^180)
theorem Y4n:gRun Tryz.prog (eF F) 247 (eaL 4) (eaS1 p tk r f) [0,4096,(4096+1*2^180)] [0,2,4,6,7,8]=some (.normal,eaS4 p tk r (eaW F p f).1 (eaW F p f).2):=by kernel_rfl
theorem Y4p:gRun Tryz.prog (eF F) 247 (eaL 5) (eaS4 p tk r w f) [0,4096,(4096+1*2^180)] [0,2,4,6,7,8,9,10,11,12]=some (.normal,eaS7 p tk r w (eaCo F p r (w,f)).1 (eaSi F r (w,f) (eaCo F p r (w,f))).1 (eaSi F r (w,f) (eaCo F p r (w,f))).2):=by kernel_rfl
theorem Y4q:gRun Tryz.prog (eF F) 247 (eaL 6) (eaS7 p tk r w c s f) [0,(4096+1*2^180)] [0,2,6,7,9,10,11,12]=bif decide (w≥1048576) then some (.normal,eaS8 tk r c s (F.o.div f p.x w).1 (F.o.div (F.o.div f p.x w).2 p.y w).1 (F.o.div (F.o.div f p.x w).2 p.y w).2) else some (.normal,eaS8 tk r c s 1099511627776 0 f):=by kernel_rfl
def Y3j(tk r c s u v:Int)(T:Nat→Int)(f:Bool):St:=gSt 247 [(0,.ptr 0 0),(2,.val (.int .i64 tk)),(6,.ptr (4096+1*2^180) 0),(7,.val (.int .i64 r)),(9,.val (.int .i64 c)),(10,.val (.int .i64 s)),(11,.val (.int .i64 u)),(12,.val (.int .i64 v)),(13,.map (4096+2*2^180))] [(0,.row 57 [.val (.bool f)]),((4096+1*2^180),.row 32 [.val (.int .i64 0),.val (.int .i64 0),.val (.int .i64 0)]),((4096+2*2^180),.obj (D1a 7 T))] (4096+3*2^180)
def Y3k(tk r c s u v:Int)(T:Nat→Int)(f:Bool):St:=gSt 247 [(0,.ptr 0 0),(2,.val (.int .i64 tk)),(6,.ptr (4096+1*2^180) 0),(7,.val (.int .i64 r)),(9,.val (.int .i64 c)),(10,.val (.int .i64 s)),(11,.val (.int .i64 u)),(12,.val (.int .i64 v)),(13,.map (4096+2*2^180)),(14,.val (.int .i64 0)),(15,.val (.int .i64 0)),(16,.val (.int .i64 0))] [(0,.row 57 [.val (.bool f)]),((4096+1*2^180),.row 32 [.val (.int .i64 0),.val (.int .i64 0),.val (.int .i64 0)]),((4096+2*2^180),.obj (D1a 7 T))] (4096+3*2^180)
def Y3m(tk c s u v:Int)(T:Nat→Int)(ra:Int)(f:Bool):St:=gSt 247 [(0,.ptr 0 0),(2,.val (.int .i64 tk)),(6,.ptr (4096+1*2^180) 0),(9,.val (.int .i64 c)),(10,.val (.int .i64 s)),(11,.val (.int .i64 u)),(12,.val (.int .i64 v)),(13,.map (4096+2*2^180)),(14,.val (.int .i64 0)),(15,.val (.int .i64 0)),(16,.val (.int .i64 0)),(17,.val (.int .i64 ra))] [(0,.row 57 [.val (.bool f)]),((4096+1*2^180),.row 32 [.val (.int .i64 0),.val (.int .i64 0),.val (.int .i64 0)]),((4096+2*2^180),.obj (D1a 7 T))] (4096+3*2^180)
def Y3n(tk c s u v:Int)(T:Nat→Int)(ra t:Int)(f:Bool):St:=gSt 247 [(0,.ptr 0 0),(2,.val (.int .i64 tk)),(6,.ptr (4096+1*2^180) 0),(9,.val (.int .i64 c)),(10,.val (.int .i64 s)),(11,.val (.int .i64 u)),(12,.val (.int .i64 v)),(13,.map (4096+2*2^180)),(14,.val (.int .i64 0)),(15,.val (.int .i64 0)),(16,.val (.int .i64 0)),(17,.val (.int .i64 ra)),(18,.val (.int .i64 t))] [(0,.row 57 [.val (.bool f)]),((4096+1*2^180),.row 32 [.val (.int .i64 0),.val (.int .i64 0),.val (.int .i64 0)]),((4096+2*2^180),.obj (D1a 7 T))] (4096+3*2^180)
theorem Y4r:A4u Tryz.prog (eF F) 247 (eaL 7) (eaS8 tk r c s u v f) [0,(4096+1*2^180),(4096+2*2^180)] [0,2,6,7,9,10,11,12,13]=some (.normal,Y3j tk r c s u v (F.te f (c,s,())).1 (F.te f (c,s,())).2):=by kernel_rfl
theorem Y4t:gRun Tryz.prog (eF F) 247 (eaL 8) (Y3j tk r c s u v T f) [0,(4096+1*2^180),(4096+2*2^180)] [0,2,6,7,9,10,11,12,13,14,15,16]=some (.normal,Y3k tk r c s u v T f):=by kernel_rfl
theorem Y4u:gRun Tryz.prog (eF F) 247 (eaL 9) (Y3k tk r c s u v T f) [0,(4096+1*2^180),(4096+2*2^180)] [0,2,6,9,10,11,12,13,14,15,16,17]=some (.normal,Y3m tk c s u v T (F.o.div f 7005208482886 r).1 (F.o.div f 7005208482886 r).2):=by kernel_rfl
theorem Y3r:gRun Tryz.prog (eF F) 247 (eaL 10) (Y3m tk c s u v T ra f) [0,(4096+1*2^180),(4096+2*2^180)] [0,2,6,9,10,11,12,13,14,15,16,17,18]=some (.normal,Y3n tk c s u v T ra (F.o.mul f ra ra).1 (F.o.mul f ra ra).2):=by kernel_rfl
theorem Y3t(t:Int):gRun Tryz.prog (eF F) 247 (seqL (eaL 11)) (Y3n tk c s u v T ra t f) [0,(4096+1*2^180),(4096+2*2^180)] [0,2,6,9,10,11,12,13,14,15,16,17,18,19]=some (.normal,eaI tk c s u v T ra 1 ⟨t,0,0,0,0,0⟩ f):=by kernel_rfl
theorem Y4w:gCut Tryz.prog (eF F) 247 eaB (eaI tk c s u v T ra 7 z f) (4096+3*2^180) [0,(4096+1*2^180),(4096+2*2^180)] [0,2,6,9,10,11,12,13,14,15,16,17,18,19]=some (.exit 0,eaI tk c s u v T ra 7 z f):=by kernel_rfl
theorem Y3a:A0p (4096+3*2^180) (eaI tk c s u v T ra 2 z f)=true:=by kernel_rfl
theorem Y3b:A0p (4096+3*2^180) (eaI tk c s u v T ra 3 z f)=true:=by kernel_rfl
theorem Y3c:A0p (4096+3*2^180) (eaI tk c s u v T ra 4 z f)=true:=by kernel_rfl
theorem Y3d:A0p (4096+3*2^180) (eaI tk c s u v T ra 5 z f)=true:=by kernel_rfl
theorem Y3e:A0p (4096+3*2^180) (eaI tk c s u v T ra 6 z f)=true:=by kernel_rfl
theorem B3t:A0p (4096+3*2^180) (eaI tk c s u v T ra 7 z f)=true:=by kernel_rfl
def J1c(o:Ops)(c s u v:Int)(z:EZ×Bool):V3×Bool :=
 let a1:=o.mul z.2 z.1.up s
 let a2:=o.mul a1.2 z.1.so c
 let a:=o.add a2.2 a1.1 a2.1
 let x1:=o.mul a.2 a.1 u
 let x2:=o.mul x1.2 z.1.ea v
 let x:=o.sub x2.2 x1.1 x2.1
 let y1:=o.mul x.2 a.1 v
 let y2:=o.mul y1.2 z.1.ea u
 let y:=o.add y2.2 y1.1 y2.1
 let w1:=o.mul y.2 z.1.up c
 let w2:=o.mul w1.2 z.1.so s
 let w:=o.sub w2.2 w1.1 w2.1
 (⟨x.1,y.1,w.1⟩,w.2)
theorem Y4v:gCut Tryz.prog (eF F) 247 (eaR 12) (eaI tk c s u v T ra 7 z f) (4096+3*2^180) [0,(4096+1*2^180)] [6]=bif (J1c F.o c s u v (z,f)).2 then some (.ret,eaZ V3.zero (J1c F.o c s u v (z,f)).2 (4096+3*2^180)) else some (.ret,eaZ (J1c F.o c s u v (z,f)).1 (J1c F.o c s u v (z,f)).2 (4096+3*2^180)):=by kernel_rfl
theorem Y4g:A0p (4096+3*2^180) (eaZ p f (4096+3*2^180))=true:=by kernel_rfl
end
end Go.Ab
