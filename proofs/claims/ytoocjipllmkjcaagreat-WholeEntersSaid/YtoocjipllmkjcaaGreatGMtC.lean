/- A part of the proofs: lemmas, no statement of their own; no condition. -/
import Derived.Test.YtoocjipllmkjcaaGreatMtB
namespace Go.Ab
open Go Go.Proofs
def fwdN(o:Ops)(L:Mx)(y:Nat→Int)(b:Bool):Nat→(Nat→Int)×Bool
 | 0=>(fun _=>0,b)
 | i+1 =>
  let r:=fwdN o L y b i
  let s:=W2h o (L i) r.1 (o.add r.2 (y i) 0) i
  let d:=o.div s.2 s.1 (L i i)
  (setR r.1 i d.1,d.2)
def C4j(o:Ops)(L:Mx)(x:Nat→Int)(i:Nat)(s:Int×Bool):Nat→Int×Bool
 | 0=>s
 | c+1 =>
  let r:=C4j o L x i s c
  let m:=o.mul r.2 (L (i+1+c) i) (x (i+1+c))
  o.sub m.2 r.1 m.1
def bwdN(o:Ops)(L:Mx)(n:Nat)(st:(Nat→Int)×Bool):Nat→(Nat→Int)×Bool
 | 0=>st
 | t+1 =>
  let r:=bwdN o L n st t
  let s:=C4j o L r.1 (n-1-t) (r.1 (n-1-t),r.2) t
  let d:=o.div s.2 s.1 (L (n-1-t) (n-1-t))
  (setR r.1 (n-1-t) d.1,d.2)
def Y0m(o:Ops)(b:Bool)(l:M6)(y:R6)(n:Nat):(Nat→Int)×Bool:=bwdN o l.at n (fwdN o l.at y.at b n) n
def sumN(o:Ops)(a b:Nat→Int)(f:Bool):Nat→Int×Bool
 | 0=>(0,f)
 | k+1 =>
  let r:=sumN o a b f k
  let m:=o.mul r.2 (a k) (b k)
  o.add m.2 r.1 m.1
def appN(o:Ops)(m:Mx)(b:Nat→Int)(n:Nat)(f:Bool):Nat→(Nat→Int)×Bool
 | 0=>(fun _=>0,f)
 | i+1 =>
  let r:=appN o m b n f i
  let s:=sumN o (m i) b r.2 n
  (setR r.1 i s.1,s.2)
def J1b(r:Mx×Bool):M6×Bool:=(bif r.2 then M6.zero else M6.of r.1,r.2)
def R0e(r:(Nat→Int)×Bool):R6×Bool:=(bif r.2 then R6.zero else R6.of r.1,r.2)
def byN{ω:Type}(z:ω)(n:Int)(b:Bool)(F:Nat→ω×Bool):ω×Bool:=bif okN n then (bif b then (z,b) else F n.toNat) else (z,true)
def V0a(o:Ops)(b:Bool)(p:M6×R6×Int×Unit):R6×Bool:=byN R6.zero p.2.2.1 b fun n=>R0e (Y0m o b p.1 p.2.1 n)
def U0z(o:Ops)(b:Bool)(p:M6×R6×Int×Unit):R6×Bool:=byN R6.zero p.2.2.1 b fun n=>R0e (appN o p.1.at p.2.1.at n b n)
def X3y(e:TypeId)(r:Mx×Bool):Option (AV×List Con):=bif r.2 then some (.val (Cod.enc M6.zero),row e r.2) else some (.val (Cod.enc (M6.of r.1)),row e r.2)
def E2g(e:TypeId)(r:(Nat→Int)×Bool):Option (AV×List Con):=bif r.2 then some (.val (Cod.enc R6.zero),row e r.2) else some (.val (Cod.enc (R6.of r.1)),row e r.2)
def P0c(o:Ops)(e:TypeId)(b:Bool)(l:M6)(y:R6)(k:Nat):Option (AV×List Con):=bif !!b then some (.val (Cod.enc R6.zero),row e b) else E2g e (Y0m o b l y k)
def N0u(o:Ops)(e:TypeId)(b:Bool)(l:M6)(y:R6)(k:Nat):Option (AV×List Con):=bif !!b then some (.val (Cod.enc R6.zero),row e b) else E2g e (appN o l.at y.at k b k)
theorem C2x{α ω:Type}[Args α][Cod ω]{P:Program}{f:FuncId}{e:TypeId}{g:Bool→α→ω×Bool}(h:∀a,∃pre:α→Bool,pre a=true∧A0h P f (Sc e pre g)):A0h P f (S e g):=by
 intro args cs r cs' hs
 unfold S at hs
 split at hs
 ·rename_i r0 e' b
  split at hs
  ·rename_i a h1 h2
   obtain ⟨pre,h3,h4⟩:=h a
   refine h4 _ _ _ _ ?_
   unfold Sc
   simp only[h1,h2,STr.sel,h3,cond_true]
   simpa only[STr.sel]using hs
  ·simp[STr.sel]at hs
 ·simp[STr.sel]at hs
def mute:M0e:=[(0,fun _=>.no)]
theorem U1g{P:Program}{f:FuncId}:∀fn c,P.funcs[f]?=some fn→fn.body=some c→HFit P fn.ntmps mute c:=by
 intro fn c _ _
 refine HFit.of fun p _ h hh s s' hs=>?_
 unfold mute at hh
 simp only[W0r]at hh
 split at hh
 ·cases hh
  cases hs
 ·cases hh
def badT(e:TypeId)(z:Value)(b:Bool)(n:Int):Option (AV×List Con) :=
 bif decide (n<1) then some (.val z,row e true) else bif decide (n>6) then some (.val z,row e true) else bif !!b then some (.val z,row e b) else none
theorem R1x{e:TypeId}{z:Value}{b:Bool}{n:Int}(h:okN n=false):badT e z b n=some (.val z,row e true):=by
 unfold okN at h
 unfold badT
 by_cases h1:n<1
 ·rw[decide_eq_true h1];rfl
 ·rw[decide_eq_false h1,cond_false]
  rw[decide_eq_true (p:=1≤n) (by omega),Bool.true_and,decide_eq_false_iff_not]at h
  rw[decide_eq_true (p:=n>6) (by omega)]
  rfl
theorem B1j{n:Int}(h:okN n=true):n=1∨n=2∨n=3∨n=4∨n=5∨n=6:=by
 unfold okN at h
 simp only[Bool.and_eq_true,decide_eq_true_eq]at h
 omega
theorem M0k(e:TypeId)(r:Mx×Bool):X3y e r=some (.val (Cod.enc (J1b r).1),row e (J1b r).2):=pull
theorem E0n(e:TypeId)(r:(Nat→Int)×Bool):E2g e r=some (.val (Cod.enc (R0e r).1),row e (R0e r).2):=pull
theorem D2v{ω:Type}(z:ω){n:Int}(b:Bool)(F:Nat→ω×Bool)(h:okN n=false):byN z n b F=(z,true):=by unfold byN;rw[h];rfl
theorem E0x{ω:Type}[Cod ω](e:TypeId)(z:ω)(b:Bool)(r:ω×Bool):(bif !!b then some (AV.val (Cod.enc z),row e b) else some (AV.val (Cod.enc r.1),row e r.2))=some (AV.val (Cod.enc (bif b then (z,b) else r).1),row e (bif b then (z,b) else r).2):=by
 cases b<;>rfl
def G0t(o:Ops)(b:Bool)(p:M6×Int×Unit):M6×Bool:=byN M6.zero p.2.1 b fun n=>J1b (D0h o p.1.at b n)
theorem B2p(o:Ops)(b:Bool)(m:M6)(n:Int):fnSum Tryz.prog (envM o) mute 20 61 [.ptr 0 0,.val (Cod.enc m),.val (.int .i64 n)] (row 57 b)=badT 57 (Cod.enc M6.zero) b n:=by kernel_rfl
theorem ok64:A0h Tryz.prog 61 (S 57 (G0t opsF)):=by
 refine C2x fun (a:M6×Int×Unit)=>?_
 cases hn:okN a.2.1 with
 | false =>
  refine ⟨fun p=>!okN p.2.1,by simp only[hn,Bool.not_false],?_⟩
  refine C2z (E:=envM opsF) A0u (hB:=mute) U1g 20 fun b p hp=>?_
  obtain ⟨m,n,_⟩:=p
  have hp':okN n=false:=by simpa using hp
  refine ((B2p opsF b m n).trans (R1x hp')).trans ?_
  show _=some (AV.val (Cod.enc (byN M6.zero n b _).1),row 57 (byN M6.zero n b _).2)
  rw[D2v _ _ _ hp']
 | true =>
  rcases B1j hn with h | h | h | h | h | h
  ·refine ⟨fun p=>decide (p.2.1=1),by simp only[h,decide_true],?_⟩
   refine K0h (E:=envM opsF) A0u 20 fun b p hp=>?_
   obtain ⟨m,n,_⟩:=p
   have hp':n=1:=by simpa using hp
   subst hp'
   refine (Z2d opsF b m).trans ?_
   unfold Y0x
   exact (congrArg (fun x=>bif !!b then some (AV.val (Cod.enc M6.zero),row 57 b) else x) (M0k 57 (D0h opsF m.at b 1))).trans (E0x 57 M6.zero b (J1b (D0h opsF m.at b 1)))
  ·refine ⟨fun p=>decide (p.2.1=2),by simp only[h,decide_true],?_⟩
   refine K0h (E:=envM opsF) A0u 20 fun b p hp=>?_
   obtain ⟨m,n,_⟩:=p
   have hp':n=2:=by simpa using hp
   subst hp'
   refine (Z2e opsF b m).trans ?_
   unfold Y0x
   exact (congrArg (fun x=>bif !!b then some (AV.val (Cod.enc M6.zero),row 57 b) else x) (M0k 57 (D0h opsF m.at b 2))).trans (E0x 57 M6.zero b (J1b (D0h opsF m.at b 2)))
  ·refine ⟨fun p=>decide (p.2.1=3),by simp only[h,decide_true],?_⟩
   refine K0h (E:=envM opsF) A0u 20 fun b p hp=>?_
   obtain ⟨m,n,_⟩:=p
   have hp':n=3:=by simpa using hp
   subst hp'
   refine (Z2g opsF b m).trans ?_
   unfold Y0x
   exact (congrArg (fun x=>bif !!b then some (AV.val (Cod.enc M6.zero),row 57 b) else x) (M0k 57 (D0h opsF m.at b 3))).trans (E0x 57 M6.zero b (J1b (D0h opsF m.at b 3)))
  ·refine ⟨fun p=>decide (p.2.1=4),by simp only[h,decide_true],?_⟩
   refine K0h (E:=envM opsF) A0u 20 fun b p hp=>?_
   obtain ⟨m,n,_⟩:=p
   have hp':n=4:=by simpa using hp
   subst hp'
   refine (Z2h opsF b m).trans ?_
   unfold Y0x
   exact (congrArg (fun x=>bif !!b then some (AV.val (Cod.enc M6.zero),row 57 b) else x) (M0k 57 (D0h opsF m.at b 4))).trans (E0x 57 M6.zero b (J1b (D0h opsF m.at b 4)))
  ·refine ⟨fun p=>decide (p.2.1=5),by simp only[h,decide_true],?_⟩
   refine K0h (E:=envM opsF) A0u 20 fun b p hp=>?_
   obtain ⟨m,n,_⟩:=p
   have hp':n=5:=by simpa using hp
   subst hp'
   refine (Z2j opsF b m).trans ?_
   unfold Y0x
   exact (congrArg (fun x=>bif !!b then some (AV.val (Cod.enc M6.zero),row 57 b) else x) (M0k 57 (D0h opsF m.at b 5))).trans (E0x 57 M6.zero b (J1b (D0h opsF m.at b 5)))
  ·refine ⟨fun p=>decide (p.2.1=6),by simp only[h,decide_true],?_⟩
   refine K0h (E:=envM opsF) A0u 20 fun b p hp=>?_
   obtain ⟨m,n,_⟩:=p
   have hp':n=6:=by simpa using hp
   subst hp'
   refine (Z2k opsF b m).trans ?_
   unfold Y0x
   exact (congrArg (fun x=>bif !!b then some (AV.val (Cod.enc M6.zero),row 57 b) else x) (M0k 57 (D0h opsF m.at b 6))).trans (E0x 57 M6.zero b (J1b (D0h opsF m.at b 6)))
structure Gs where
 q:V4
 bias:V3
 p:M6
def m6c(m:M6):List Value:=m.a.cells++(m.b.cells++(m.c.cells++(m.d.cells++(m.e.cells++(m.f.cells++[])))))
def M6.dec:List Value→Option M6:=fun l=>match (Cod.dec (α:=M6) (.agg ⟨l⟩)) with | some m=>some m | none=>none
theorem M6.dec_law{l:List Value}{m:M6}(h:M6.dec l=some m):l=m6c m:=by
 unfold M6.dec at h
 split at h
 ·rename_i m' hm
  cases h
  have :=Cod.law _ _ hm
  injection this with h1
  injection h1
 ·cases h
instance:Cod Gs where
 enc g:=.agg ⟨.int .i64 g.q.w :: .int .i64 g.q.x :: .int .i64 g.q.y :: .int .i64 g.q.z :: .int .i64 g.bias.x :: .int .i64 g.bias.y :: .int .i64 g.bias.z :: m6c g.p⟩
 dec v:=match v with
  | .agg ⟨.int .i64 a :: .int .i64 b :: .int .i64 c :: .int .i64 d :: .int .i64 x :: .int .i64 y :: .int .i64 z :: l⟩=>match M6.dec l with
   | some m=>some ⟨⟨a,b,c,d⟩,⟨x,y,z⟩,m⟩
   | none=>none
  | _=>none
 law v g h:=by
  split at h
  ·split at h
   ·rename_i hm
    cases h
    rw[M6.dec_law hm]
   ·cases h
  ·cases h
structure X13 where
 (r0 r1 r2 r3 r4 r5 r6 r7 r8 r9 r10 r11 r12:R6)
def M1t:List R6→List Value
 | []=>[]
 | r :: t=>r.cells++M1t t
def sixs:Nat→List Value→Option (List R6)
 | _,[]=>some []
 | 0,_ :: _=>none
 | n+1,l=>match six l with
  | some (r,t)=>match sixs n t with
   | some rs=>some (r :: rs)
   | none=>none
  | none=>none
theorem Y1y:∀{n:Nat} {l:List Value} {rs:List R6},sixs n l=some rs→l=M1t rs
 | 0,[],rs,h=>by simp only[sixs,Option.some.injEq]at h;subst h;rfl
 | n+1,[],rs,h=>by simp only[sixs,Option.some.injEq]at h;subst h;rfl
 | 0,v :: t,rs,h=>by simp[sixs]at h
 | n+1,v :: t,rs,h=>by
  simp only[sixs]at h
  split at h
  ·rename_i r t' h1
   split at h
   ·rename_i rs' h2
    cases h
    rw[T0z h1,Y1y h2]
    rfl
   ·cases h
  ·cases h
def X13.rows(x:X13):List R6:=[x.r0,x.r1,x.r2,x.r3,x.r4,x.r5,x.r6,x.r7,x.r8,x.r9,x.r10,x.r11,x.r12]
instance:Cod X13 where
 enc x:=.agg ⟨M1t x.rows⟩
 dec v:=match v with
  | .agg ⟨l⟩=>match sixs 13 l with
   | some [r0,r1,r2,r3,r4,r5,r6,r7,r8,r9,r10,r11,r12]=>some ⟨r0,r1,r2,r3,r4,r5,r6,r7,r8,r9,r10,r11,r12⟩
   | _=>none
  | _=>none
 law v x h:=by
  split at h
  ·split at h
   ·rename_i hs
    cases h
    rw[Y1y hs]
    rfl
   ·cases h
  ·cases h
def N0r(X:Mx):X13:=⟨R6.of (X 0),R6.of (X 1),R6.of (X 2),R6.of (X 3),R6.of (X 4),R6.of (X 5),R6.of (X 6),R6.of (X 7),R6.of (X 8),R6.of (X 9),R6.of (X 10),R6.of (X 11),R6.of (X 12)⟩
def x13z:X13:=N0r mx0
def start(q:V4):Gs:=⟨q,V3.zero,⟨⟨17179869184,0,0,0,0,0⟩,⟨0,17179869184,0,0,0,0⟩,⟨0,0,17179869184,0,0,0⟩,⟨0,0,0,16777216,0,0⟩,⟨0,0,0,0,16777216,0⟩,⟨0,0,0,0,0,16777216⟩⟩⟩
theorem Z2z(q:V4):fnSum Tryz.prog {gam:=[]} [] 20 48 [.val (Cod.enc q)] []=some (.val (Cod.enc (start q)),[]):=by kernel_rfl
def Z1a(o:Ops)(b:Bool)(g:Gs):Int×Bool:=o.add (o.add b g.p.a.a g.p.b.b).2 (o.add b g.p.a.a g.p.b.b).1 g.p.c.c
theorem R2a(o:Ops)(b:Bool)(g:Gs):fnSum Tryz.prog {gam:=gamN o} [] 20 50 [.ptr 0 0,.val (Cod.enc g)] (row 57 b)=some (.val (.int .i64 (Z1a o b g).1),row 57 (Z1a o b g).2):=by kernel_rfl
def H2r:List (Nat×Nat):=[(0,0),(0,1),(0,2),(0,3),(0,4),(0,5),(1,0),(1,1),(1,2),(1,3),(1,4),(1,5),(2,0),(2,1),(2,2),(2,3),(2,4),(2,5),(3,0),(3,1),(3,2),(3,3),(3,4),(3,5),(4,0),(4,1),(4,2),(4,3),(4,4),(4,5),(5,0),(5,1),(5,2),(5,3),(5,4),(5,5)]
def runJ(o:Ops)(c:Int)(l:Mx):List (Nat×Nat)→Mx×Bool→Mx×Bool
 | [],st=>st
 | (i,k) :: r,st =>
  let d:=o.mul st.2 c (l i k)
  runJ o c l r (setM (setM st.1 (1+k) i d.1) (7+k) i (IntKind.i64.wrap (0-d.1)),d.2)
def V1m(o:Ops)(rt:Bool→M6×Int×Unit→M6×Bool)(J:List (Nat×Nat))(b:Bool)(g:Gs):Mx×Bool :=
 let l:=rt b (g.p,6,())
 let c:=o.sqrt l.2 7696581394432
 runJ o c.1 l.1.at J (mx0,c.2)
def V1n(e:TypeId)(r:Mx×Bool):Option (AV×List Con):=bif r.2 then some (.val (Cod.enc x13z),row e r.2) else some (.val (Cod.enc (N0r r.1)),row e r.2)
theorem P2h(o:Ops)(rt:Bool→M6×Int×Unit→M6×Bool)(b:Bool)(g:Gs):fnSum Tryz.prog {gam:=(61,S 57 rt) :: gamN o} [] 20 52 [.ptr 0 0,.val (Cod.enc g)] (row 57 b)=V1n 57 (V1m o rt H2r b g):=by kernel_rfl
end Go.Ab
