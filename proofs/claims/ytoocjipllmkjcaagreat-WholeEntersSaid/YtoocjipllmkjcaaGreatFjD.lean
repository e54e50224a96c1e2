/- A part of the proof of 'CraftHolds': lemmas, no statement of their own; no condition. -/
import Derived.Test.YtoocjipllmkjcaaGreatFjB
import Derived.Test.YtoocjipllmkjcaaGreatFjC
namespace Go.Ab
open Go Go.Proofs
theorem Z0p:∀{l:List AV} {vs:List Value},D0v l=some vs→l=vs.map .val
 | [],vs,h=>by simp only[D0v,Option.some.injEq]at h;subst h;rfl
 | a :: l,vs,h=>by
  cases a with
  | val v =>
   simp only[D0v]at h
   split at h
   ·rename_i ws hw
    cases h
    rw[Z0p hw]
    rfl
   ·cases h
  | _=>simp[D0v]at h
def L1c(α:Type)[Cod α](l:List AV):Option α:=match D0v l with
 | some vs=>Cod.dec (.agg ⟨vs⟩)
 | none=>none
theorem Q1p{α:Type}[Cod α]{l:List AV}{x:α}(h:L1c α l=some x):∃vs,l=vs.map .val∧Cod.enc x=.agg ⟨vs⟩:=by
 unfold L1c at h
 split at h
 ·rename_i vs hv
  exact ⟨vs,Z0p hv,(Cod.law _ _ h).symm⟩
 ·cases h
def X13.av(x:X13):List AV:=(M1t x.rows).map .val
theorem Y2t{l:List AV}{x:X13}(h:L1c X13 l=some x):l=x.av:=by
 obtain ⟨vs,rfl,h2⟩:=Q1p h
 have:Value.agg ⟨M1t x.rows⟩=.agg ⟨vs⟩:=h2
 injection this with h3
 injection h3 with h4
 unfold X13.av
 rw[h4]
def X13.at(x:X13):Mx
 | 0=>x.r0.at
 | 1=>x.r1.at
 | 2=>x.r2.at
 | 3=>x.r3.at
 | 4=>x.r4.at
 | 5=>x.r5.at
 | 6=>x.r6.at
 | 7=>x.r7.at
 | 8=>x.r8.at
 | 9=>x.r9.at
 | 10=>x.r10.at
 | 11=>x.r11.at
 | 12=>x.r12.at
 | _=>fun _=>0
theorem R1w(x:X13):C0d x.at=x.av:=by kernel_rfl
theorem H5t(X:Mx):C0d X=(N0r X).av:=by kernel_rfl
def M6.av(m:M6):List AV:=(m6c m).map .val
theorem rdM6{l:List AV}{m:M6}(h:L1c M6 l=some m):l=m.av:=by
 obtain ⟨vs,rfl,h2⟩:=Q1p h
 have:Value.agg ⟨m6c m⟩=.agg ⟨vs⟩:=h2
 injection this with h3
 injection h3 with h4
 unfold M6.av
 rw[h4]
theorem V3t(m:M6):B0e m.at=m.av:=by kernel_rfl
theorem K4g(X:Mx):B0e X=(M6.of X).av:=by kernel_rfl
structure XR where
 x:X13
 m:R6
abbrev CFun:=Bool→X13→XR×Bool
abbrev PFun:=Bool→X13→X13→M6×Bool
abbrev OFun:=Bool→M6→Int→Int→M6×Bool
def T0c(o:Ops):CFun:=fun b x=>(⟨N0r (P0t o b x.at).1.1,R6.of (P0t o b x.at).1.2⟩,(P0t o b x.at).2)
def T0w(o:Ops):PFun:=fun b x y=>(M6.of (Q1g o b x.at y.at).1,(Q1g o b x.at y.at).2)
def ctrS(g:CFun):D0c:=fun args cs=>match args,cs with
 | [.ptr 0 0,.ptr 1 0],[.row e l,.row e2 [.val (.bool b)]]=>match Nat.beq e 112&&Nat.beq e2 57,L1c X13 l with
  | true,some x=>.ret (.val (Cod.enc (g b x).1.m)) [.row 112 (g b x).1.x.av,.row 57 [.val (.bool (g b x).2)]]
  | _,_=>.no
 | _,_=>.no
theorem C3w(x:X13)(b:Bool):J0x (upTo 2) [.row 112 x.av,.row 57 [.val (.bool b)]]=some [.row 112 x.av,.row 57 [.val (.bool b)]]:=by kernel_rfl
theorem K4v{o:Ops}(hG:GamOk Tryz.prog (gamN o)):A0h Tryz.prog 57 (ctrS (T0c o)):=by
 intro args cs r cs' h
 unfold ctrS at h
 split at h
 ·split at h
  ·rename_i e l e2 b _ _ x he hv
   simp only[STr.sel,Option.some.injEq,Prod.mk.injEq]at h
   obtain ⟨rfl,rfl⟩:=h
   simp only[Bool.and_eq_true]at he
   rw[Nat.eq_of_beq_eq_true he.1,Nat.eq_of_beq_eq_true he.2,Y2t hv]
   have hrun:=T1d (o:=o) hG x.at b
   rw[R1w]at hrun
   refine E0k A4k (c:=ctC) (by unfold ctC;rw[B3r];rfl) ctN (by simp) (by simp) rfl rfl (C3w x b) (.inr rfl) hrun (cqR ..) rfl rfl (fun b' c hb=>?_) rfl (C3w ..)
   match b',hb with
   | 0,hb=>cases hb;exact congrArg (fun l=>some (Con.row 112 l)) (H5t _)
   | 1,hb=>cases hb;rfl
   | n+2,hb=>simp at hb
  ·simp[STr.sel]at h
 ·simp[STr.sel]at h
def prdS(g:PFun):D0c:=fun args cs=>match args,cs with
 | [.ptr 0 0,.ptr 1 0,.ptr 1 0],[.row e [.val (.bool b)],.row e1 l]=>match Nat.beq e 57&&Nat.beq e1 112,L1c X13 l with
  | true,some x=>.ret (.val (Cod.enc (g b x x).1)) [.row 57 [.val (.bool (g b x x).2)],.row 112 x.av]
  | _,_=>.no
 | [.ptr 0 0,.ptr 1 0,.ptr 2 0],[.row e [.val (.bool b)],.row e1 l,.row e2 k]=>match Nat.beq e 57&&(Nat.beq e1 112&&Nat.beq e2 112),L1c X13 l,L1c X13 k with
  | true,some x,some y=>.ret (.val (Cod.enc (g b x y).1)) [.row 57 [.val (.bool (g b x y).2)],.row 112 x.av,.row 112 y.av]
  | _,_,_=>.no
 | _,_=>.no
theorem N4k(x:X13)(b:Bool):J0x (upTo 2) [.row 57 [.val (.bool b)],.row 112 x.av]=some [.row 57 [.val (.bool b)],.row 112 x.av]:=by kernel_rfl
theorem N4j(x y:X13)(b:Bool):J0x (upTo 3) [.row 57 [.val (.bool b)],.row 112 x.av,.row 112 y.av]=some [.row 57 [.val (.bool b)],.row 112 x.av,.row 112 y.av]:=by kernel_rfl
theorem L4j{o:Ops}(hG:GamOk Tryz.prog (gamN o)):A0h Tryz.prog 58 (prdS (T0w o)):=by
 intro args cs r cs' h
 have hb:Tryz.f58.body=some prC:=by unfold prC;rw[P2m];rfl
 unfold prdS at h
 split at h
 ·split at h
  ·rename_i e b e1 l _ _ x he hv
   simp only[STr.sel,Option.some.injEq,Prod.mk.injEq]at h
   obtain ⟨rfl,rfl⟩:=h
   simp only[Bool.and_eq_true]at he
   rw[Nat.eq_of_beq_eq_true he.1,Nat.eq_of_beq_eq_true he.2,Y2t hv]
   have hrun:=P3n (o:=o) hG x.at b
   rw[R1w]at hrun
   refine E0k C3d hb prN (by simp) (by simp) rfl rfl (N4k x b) (.inr rfl) hrun (psr ..) rfl rfl (fun b' c hb=>?_) rfl (N4k ..)
   match b',hb with
   | 0,hb=>cases hb;rfl
   | 1,hb=>cases hb;exact congrArg (fun l=>some (Con.row 112 l)) (R1w x)
   | n+2,hb=>simp at hb
  ·simp[STr.sel]at h
 ·split at h
  ·rename_i e b e1 l e2 k _ _ _ x y he hv hu
   simp only[STr.sel,Option.some.injEq,Prod.mk.injEq]at h
   obtain ⟨rfl,rfl⟩:=h
   simp only[Bool.and_eq_true]at he
   rw[Nat.eq_of_beq_eq_true he.1,Nat.eq_of_beq_eq_true he.2.1,Nat.eq_of_beq_eq_true he.2.2,Y2t hv,Y2t hu]
   have hrun:=P3m (o:=o) hG x.at y.at b
   rw[R1w,R1w]at hrun
   refine E0k C3d hb prN (by simp) (by simp) rfl rfl (N4j x y b) (.inr rfl) hrun (pdr ..) rfl rfl (fun b' c hb=>?_) rfl (N4j ..)
   match b',hb with
   | 0,hb=>cases hb;rfl
   | 1,hb=>cases hb;exact congrArg (fun l=>some (Con.row 112 l)) (R1w x)
   | 2,hb=>cases hb;exact congrArg (fun l=>some (Con.row 112 l)) (R1w y)
   | n+3,hb=>simp at hb
  ·simp[STr.sel]at h
 ·simp[STr.sel]at h
def B2b(o:Ops)(b:Bool)(m:Mx)(p q:Int):Mx×Bool :=
 let s0:=o.add b (m 0 0) p
 let s1:=o.add s0.2 (m 1 1) p
 let s2:=o.add s1.2 (m 2 2) p
 let s3:=o.add s2.2 (m 3 3) q
 let s4:=o.add s3.2 (m 4 4) q
 let s5:=o.add s4.2 (m 5 5) q
 (setM (setM (setM (setM (setM (setM m 0 0 s0.1) 1 1 s1.1) 2 2 s2.1) 3 3 s3.1) 4 4 s4.1) 5 5 s5.1,s5.2)
theorem L4t(o:Ops)(b:Bool)(m:Mx)(p q:Int):fnSum Tryz.prog {gam:=gamN o} [] 20 59 [.ptr 0 0,.ptr 1 0,.val (.int .i64 p),.val (.int .i64 q)] [.row 57 [.val (.bool b)],.row 40 (B0e m)] =
  some (.val (.tuple #[]),[.row 57 [.val (.bool (B2b o b m p q).2)],.row 40 (B0e (B2b o b m p q).1)]):=by kernel_rfl
def X0b(o:Ops):OFun:=fun b m p q=>(M6.of (B2b o b m.at p q).1,(B2b o b m.at p q).2)
def ontS(g:OFun):D0c:=fun args cs=>match args,cs with
 | [.ptr 0 0,.ptr 1 0,.val (.int .i64 p),.val (.int .i64 q)],[.row e [.val (.bool b)],.row e1 l]=>match Nat.beq e 57&&Nat.beq e1 40,L1c M6 l with
  | true,some m=>.ret (.val (.tuple #[])) [.row 57 [.val (.bool (g b m p q).2)],.row 40 (g b m p q).1.av]
  | _,_=>.no
 | _,_=>.no
theorem L4e{o:Ops}(hG:GamOk Tryz.prog (gamN o)):A0h Tryz.prog 59 (ontS (X0b o)):=by
 refine K0a (E:={gam:=gamN o}) hG fun args cs r cs' h=>?_
 unfold ontS at h
 split at h
 ·split at h
  ·rename_i p q e b e1 l _ _ m he hv
   simp only[STr.sel,Option.some.injEq,Prod.mk.injEq]at h
   obtain ⟨rfl,rfl⟩:=h
   simp only[Bool.and_eq_true]at he
   refine ⟨by simp,20,?_⟩
   rw[Nat.eq_of_beq_eq_true he.1,Nat.eq_of_beq_eq_true he.2,rdM6 hv,← V3t]
   refine (L4t o b m.at p q).trans ?_
   rw[K4g]
   rfl
  ·simp[STr.sel]at h
 ·simp[STr.sel]at h
def D0m(r:R6):Two V3 V3:=⟨⟨r.a,r.b,r.c⟩,⟨r.d,r.e,r.f⟩⟩
def W0w(a b:V3):R6:=⟨a.x,a.y,a.z,b.x,b.y,b.z⟩
theorem W2a(r:R6):fnSum Tryz.prog {gam:=[]} [] 20 53 [.val (Cod.enc r)] []=some (.val (Cod.enc (D0m r)),[]):=by kernel_rfl
theorem C4c(a b:V3):fnSum Tryz.prog {gam:=[]} [] 20 55 [.val (Cod.enc a),.val (Cod.enc b)] []=some (.val (Cod.enc (W0w a b)),[]):=by kernel_rfl
theorem K1n:A0h Tryz.prog 53 (S0 fun (p:R6×Unit)=>D0m p.1):=H0n (E:={gam:=[]}) GamOk.nil 20 fun a=>W2a a.1
theorem C3m:A0h Tryz.prog 55 (S0 fun (p:V3×V3×Unit)=>W0w p.1 p.2.1):=H0n (E:={gam:=[]}) GamOk.nil 20 fun a=>C4c a.1 a.2.1
abbrev QFun:=Bool→V4×V4×Unit→V4×Bool
abbrev RFun:=Bool→V3×Unit→V4×Bool
abbrev TFun:=Bool→V3×V4×Unit→V4×Bool
abbrev UFun:=Bool→V4×Unit→V4×Bool
def W1q(mu:QFun)(fr:RFun)(b:Bool)(p:V3×V4×Unit):V4×Bool :=
 let r:=fr b (p.1,())
 mu r.2 (r.1,p.2.1,())
theorem A3t(mu:QFun)(fr:RFun)(b:Bool)(p:V3)(q:V4):fnSum Tryz.prog {gam:=[(135,S 57 mu),(142,S 57 fr)]} [] 20 54 [.ptr 0 0,.val (Cod.enc p),.val (Cod.enc q)] (row 57 b) =
  some (.val (Cod.enc (W1q mu fr b (p,q,())).1),row 57 (W1q mu fr b (p,q,())).2):=by kernel_rfl
def Gs.zero:Gs:=⟨V4.zero,V3.zero,M6.zero⟩
def T0y(va:Bool→V3×V3×Unit→V3×Bool)(un:UFun)(tu:TFun)(b:Bool)(q:V4)(bias:V3)(by_:R6)(p:M6):Gs×Bool :=
 let t:=tu b ((D0m by_).a,q,())
 let u:=un t.2 (t.1,())
 let c:=va u.2 (bias,(D0m by_).b,())
 (⟨u.1,c.1,p⟩,c.2)
def L1q(va:Bool→V3×V3×Unit→V3×Bool)(un:UFun)(tu:TFun)(b:Bool)(p:V4×V3×R6×M6×Unit):Two Gs Bool×Bool :=
 let r:=T0y va un tu b p.1 p.2.1 p.2.2.1 p.2.2.2.1
 (bif r.2 then ⟨Gs.zero,false⟩ else ⟨r.1,true⟩,r.2)
theorem Z2t(va:Bool→V3×V3×Unit→V3×Bool)(un:UFun)(tu:TFun)(b:Bool)(q:V4)(bias:V3)(by_:R6)(p:M6) :
  fnSum Tryz.prog {gam:=[(146,S 57 va),(133,S 57 un),(54,S 57 tu),(53,S0 fun (p:R6×Unit)=>D0m p.1)]} [] 20 66 [.ptr 0 0,.val (Cod.enc q),.val (Cod.enc bias),.val (Cod.enc by_),.val (Cod.enc p)] (row 57 b) =
   bif (T0y va un tu b q bias by_ p).2 then some (.val (Cod.enc (Two.mk Gs.zero false)),row 57 (T0y va un tu b q bias by_ p).2) else some (.val (Cod.enc (Two.mk (T0y va un tu b q bias by_ p).1 true)),row 57 (T0y va un tu b q bias by_ p).2):=by kernel_rfl
end Go.Ab
