/- A part of the proofs: lemmas, no statement of their own; no condition. -/
import Derived.Test.YtoocjipllmkjcaaGreatGFxB
namespace Go.Ab
open Go Go.Proofs
theorem U2b(a b:Wd):fnSum Tryz.prog {gam:=[]} [] 20 127 [.val (Cod.enc a),.val (Cod.enc b)] [] =
  bif decide (a.h>b.h) then some (.val (.bool true),[]) else bif a.h==b.h then some (.val (.bool (decide (a.l>b.l))),[]) else some (.val (.bool false),[]):=by kernel_rfl
def abV(p:Wd×Wd×Unit):Bool:=decide (p.1.h>p.2.1.h)||(p.1.h==p.2.1.h&&decide (p.1.l>p.2.1.l))
theorem J5j:A0h Tryz.prog 127 (S0 abV):=by
 refine H0n (E:={gam:=[]}) GamOk.nil 20 fun p=>?_
 obtain ⟨a,b,_⟩:=p
 refine (U2b a b).trans ?_
 unfold abV
 dsimp only
 cases decide (a.h>b.h)<;>cases a.h==b.h<;>rfl
def sqSl:J0m:=[(6,.int .u64),(7,.int .i64)]
def sqFx:List (Nat×Nat×Nat):=[(5,3064991081731777716716694054300618367237478244367208448,0)]
def C1v:R0z:=[(4096,2,[.i64]),(3064991081731777716716694054300618367237478244367208448,185,[.u64,.u64])]
def sqG:List Nat:=8 :: nums 22 18
def sqSt(r i a h l:Int)(c:Con)(x:Nat→AV)(lo hi step:Nat):St:=lrSt 40 sqSl sqFx sqG c C1v [r,i,a,h,l] x lo hi step
def G0u(r i:Int):Int:=IntKind.u64.wrap (r+shI 1 i)
theorem R3e(mp:U6×U6×Unit→Bool)(mv:U6×U6×Unit→Wd)(ab:Wd×Wd×Unit→Bool)(r i a h l:Int)(c:Con)(x:Nat→AV)(lo hi step:Nat) :
  run Tryz.prog (B0v Tryz.prog {gam:=[(125,S0c mp mv),(127,S0 ab)]} 1) 40 {quiet:=B0p [(125,S0c mp mv),(127,S0 ab)]} [] 50 (Ex×St) (J0u (K0k Tryz.f157 0)) (sqSt r i a h l c x lo hi step) (fun e s'=>some (e,G0c sqG s')) =
   bif decide (i≥0) then bif decide (i<0) then none else
    bif mp (⟨G0u r i⟩,⟨G0u r i⟩,()) then
     bif !ab (⟨(mv (⟨G0u r i⟩,⟨G0u r i⟩,())).h,(mv (⟨G0u r i⟩,⟨G0u r i⟩,())).l⟩,⟨h,l⟩,()) then some (.normal,sqSt (G0u r i) (IntKind.i64.wrap (i-1)) a h l c x lo hi step)
     else some (.normal,sqSt r (IntKind.i64.wrap (i-1)) a h l c x lo hi step)
    else none
   else some (.exit 0,sqSt r i a h l c x lo hi step):=by kernel_rfl
def nmSl:J0m:=[(10,.int .u64),(11,.int .i64)]
def nmFx:List (Nat×Nat×Nat):=[(9,3064991081731777716716694054300618367237478244367208448,0)]
def B1c:R0z:=[(4096,2,[.i64,.i64,.i64]),(3064991081731777716716694054300618367237478244367208448,185,[.u64,.u64])]
def nmG:List Nat:=12 :: nums 37 18
def nmSt(r i a b c' h l:Int)(c:Con)(x:Nat→AV)(lo hi step:Nat):St:=lrSt 55 nmSl nmFx nmG c B1c [r,i,a,b,c',h,l] x lo hi step
theorem D4t:Tryz.f39.ntmps=55:=by kernel_rfl
theorem P4d:Tryz.f157.ntmps=40:=by kernel_rfl
theorem L3t(mp:U6×U6×Unit→Bool)(mv:U6×U6×Unit→Wd)(ab:Wd×Wd×Unit→Bool)(r i a b c' h l:Int)(c:Con)(x:Nat→AV)(lo hi step:Nat) :
  run Tryz.prog (B0v Tryz.prog {gam:=[(125,S0c mp mv),(127,S0 ab)]} 1) 55 {quiet:=B0p [(125,S0c mp mv),(127,S0 ab)]} [] 50 (Ex×St) (J0u (K0k Tryz.f39 0)) (nmSt r i a b c' h l c x lo hi step) (fun e s'=>some (e,G0c nmG s')) =
   bif decide (i≥0) then bif decide (i<0) then none else
    bif mp (⟨G0u r i⟩,⟨G0u r i⟩,()) then
     bif !ab (⟨(mv (⟨G0u r i⟩,⟨G0u r i⟩,())).h,(mv (⟨G0u r i⟩,⟨G0u r i⟩,())).l⟩,⟨h,l⟩,()) then some (.normal,nmSt (G0u r i) (IntKind.i64.wrap (i-1)) a b c' h l c x lo hi step)
     else some (.normal,nmSt r (IntKind.i64.wrap (i-1)) a b c' h l c x lo hi step)
    else none
   else some (.exit 0,nmSt r i a b c' h l c x lo hi step):=by kernel_rfl
def L1u(R:Int→Int→Int→Int→Int→Int):List Int→List Int
 | [r,i,a,h,l]=>[R r i a h l,-1,a,h,l]
 | xs=>xs
def K1j(R:Int→Int→Int→Int→Int):List Int→List Int
 | [r,i,a,b,c,h,l]=>[R r i h l,-1,a,b,c,h,l]
 | xs=>xs
theorem R3h(mp:U6×U6×Unit→Bool)(mv:U6×U6×Unit→Wd)(gv:Bool→U6×Bool×Unit→Int×Bool)(p:List Int→Bool)(R:Int→Int→Int→Int→Int→Int)(a:Int)(f:Bool) :
  fnSum Tryz.prog {gam:=[(125,S0c mp mv),(128,S 59 gv)]} [(0,Y0j 40 sqSl sqFx sqG C1v p (L1u R))] 20 157 [.ptr 0 0,.val (.int .i64 a)] (row 59 f) =
  rtk [a] f fun f=>bif !!f then some (.val (.int .i64 0),row 59 f) else bif decide (a<0) then some (.val (.int .i64 0),row 59 true) else
   bif mp (⟨IntKind.u64.wrap a⟩,⟨1099511627776⟩,()) then
    let m:=mv (⟨IntKind.u64.wrap a⟩,⟨1099511627776⟩,())
    bif p [0,51,a,m.h,m.l]then some (.val (.int .i64 (gv f (⟨R 0 51 a m.h m.l⟩,false,())).1),row 59 (gv f (⟨R 0 51 a m.h m.l⟩,false,())).2) else none
   else none:=by kernel_rfl
theorem L3x(mp:U6×U6×Unit→Bool)(mv:U6×U6×Unit→Wd)(av:Wd×Wd×Unit→Wd)(sz:Int×Unit→U6)(gv:Bool→U6×Bool×Unit→Int×Bool)(p:List Int→Bool)(R:Int→Int→Int→Int→Int)(a b c:Int)(f:Bool) :
  fnSum Tryz.prog {gam:=[(125,S0c mp mv),(128,S 59 gv),(124,S0 av),(126,S0 sz)]} [(0,Y0j 55 nmSl nmFx nmG B1c p (K1j R))] 20 39 [.ptr 0 0,.val (.int .i64 a),.val (.int .i64 b),.val (.int .i64 c)] (row 59 f) =
  rtk [a,b,c] f fun f=>bif !!f then some (.val (.int .i64 0),row 59 f) else
   let sq:=fun (x:Int)=>mv (⟨(sz (x,())).n⟩,⟨(sz (x,())).n⟩,())
   bif mp (⟨(sz (a,())).n⟩,⟨(sz (a,())).n⟩,()) then bif mp (⟨(sz (b,())).n⟩,⟨(sz (b,())).n⟩,()) then bif mp (⟨(sz (c,())).n⟩,⟨(sz (c,())).n⟩,()) then
    let s:=av (⟨(sq a).h,(sq a).l⟩,⟨(sq b).h,(sq b).l⟩,())
    let m:=av (⟨s.h,s.l⟩,⟨(sq c).h,(sq c).l⟩,())
    bif p [0,62,a,b,c,m.h,m.l]then some (.val (.int .i64 (gv f (⟨R 0 62 m.h m.l⟩,false,())).1),row 59 (gv f (⟨R 0 62 m.h m.l⟩,false,())).2) else none
   else none else none else none:=by kernel_rfl
theorem Z2x:C0n (Tryz.f157.body.getD .skip)=[(0,.loop (J0u (K0k Tryz.f157 0))),(1,K0k Tryz.f157 1)]:=by kernel_rfl
theorem X2a:C0n (Tryz.f39.body.getD .skip)=[(0,.loop (J0u (K0k Tryz.f39 0))),(1,K0k Tryz.f39 1)]:=by kernel_rfl
def bpre(r i h l:Int):Bool:=word h&&(word l&&decide (-1≤i∧i≤62∧0≤r∧r+2^(i+1).toNat≤9223372036854775808))
def bR(r i h l:Int):Int:=isqB (i+1).toNat r (h*18446744073709551616+l)
theorem H5h{t h l:Int}(hl:word l=true):(!abV (⟨t*t / 18446744073709551616,t*t % 18446744073709551616⟩,⟨h,l⟩,()))=decide (t*t≤h*18446744073709551616+l):=by
 simp only[word,decide_eq_true_eq]at hl
 unfold abV
 dsimp only
 rw[Bool.eq_iff_iff,Bool.not_eq_true',Bool.or_eq_false_iff,Bool.and_eq_false_iff,decide_eq_true_eq,decide_eq_false_iff_not,decide_eq_false_iff_not,beq_eq_false_iff_ne]
 generalize t*t=N at *
 omega
theorem V3u{r i h l:Int}(hp:bpre r i h l=true) :
  (i≥0→¬ i<0∧B0h (⟨G0u r i⟩,⟨G0u r i⟩,())=true∧IntKind.i64.wrap (i-1)=i-1 ∧
   ∀r',r'=(bif !abV (⟨(C0a (⟨G0u r i⟩,⟨G0u r i⟩,())).h,(C0a (⟨G0u r i⟩,⟨G0u r i⟩,())).l⟩,⟨h,l⟩,()) then G0u r i else r) →
   bpre r' (i-1) h l=true∧bR r' (i-1) h l=bR r i h l∧(i-1+1).toNat<(i+1).toNat) ∧
  (¬ i≥0→i=-1∧bR r i h l=r):=by
 simp only[bpre,Bool.and_eq_true,decide_eq_true_eq]at hp
 obtain ⟨hh,hl,h1,h2,h3,h4⟩:=hp
 refine ⟨fun h0=>?_,fun h0=>?_⟩
 ·obtain ⟨n,rfl⟩:∃n:Nat,i=n:=⟨i.toNat,by omega⟩
  have e1:((n:Int)+1).toNat=n+1:=by omega
  have e2:((n:Int)-1+1).toNat=n:=by omega
  have hk:=L0c n
  have hs:=L0z n
  rw[e1]at h4
  have hb:G0u r n=r+2^n:=by
   have:shI 1 n=1*2^n % 18446744073709551616:=C1q 1 n (by omega)
   unfold G0u
   rw[this,Int.one_mul,Int.emod_eq_of_lt (by omega) (by omega),A0r (by omega) (by omega)]
  rw[hb]
  refine ⟨by omega,by simp only[B0h,word,Bool.and_eq_true,decide_eq_true_eq];omega,A0q (by omega) (by omega),fun r' hr'=>?_⟩
  have hr':r'=bif decide ((r+2^n)*(r+2^n)≤h*18446744073709551616+l) then r+2^n else r:=by
   rw[hr',← H5h hl];rfl
  refine ⟨?_,?_,by omega⟩
  ·simp only[bpre,Bool.and_eq_true,decide_eq_true_eq,e2]
   refine ⟨hh,hl,by omega,by omega,?_⟩
   cases hc:decide ((r+2^n)*(r+2^n)≤h*18446744073709551616+l)<;>rw[hc]at hr'<;>simp only[cond_true,cond_false]at hr'<;>subst hr'<;>omega
  ·simp only[bR,e1,e2,isqB]
   subst hr'
   cases decide ((r+2^n)*(r+2^n)≤h*18446744073709551616+l)<;>rfl
 ·have:i=-1:=by omega
  subst this
  exact ⟨rfl,rfl⟩
def B2u:List Int→Bool
 | [r,i,_,h,l]=>bpre r i h l
 | _=>false
def H1e:List Int→List Int:=L1u fun r i _ h l=>bR r i h l
def A2w:List Int→Bool
 | [r,i,_,_,_,h,l]=>bpre r i h l
 | _=>false
def G1k:List Int→List Int:=K1j bR
theorem C3g:∀β,D0t Tryz.prog (B0v Tryz.prog {gam:=[(125,S0c B0h C0a),(127,S0 abV)]} 1 β):=B0b (.cons X2k (.cons J5j .nil)) 1
def W1d:M0e:=[(0,Y0j 40 sqSl sqFx sqG C1v B2u H1e)]
def U1j:M0e:=[(0,Y0j 55 nmSl nmFx nmG B1c A2w G1k)]
theorem M5e:∀fn c,Tryz.prog.funcs[157]?=some fn→fn.body=some c→HFit Tryz.prog fn.ntmps W1d c:=by
 intro fn c hf hb
 rw[Tryz.func157]at hf
 cases hf
 have hc:Tryz.f157.body.getD .skip=c:=by rw[hb];rfl
 rw[P4d]
 have hL:=Z2x
 rw[hc]at hL
 refine HFit.of fun p hp h hh s s' hs=>?_
 rw[hL]at hp
 simp only[List.mem_cons,List.not_mem_nil,or_false]at hp
 rcases hp with rfl | rfl
 ·have:h=Y0j 40 sqSl sqFx sqG C1v B2u H1e:=(Option.some.inj hh).symm
  subst this
  refine C4u C3g (F:=50) (wy:={quiet:=B0p [(125,S0c B0h C0a),(127,S0 abV)]}) (fun xs=>(xs.getD 1 0+1).toNat) ?_ s s' hs
  intro xs hlen hpre cc x lo hi step
  obtain ⟨r,i,a,hw,l,rfl⟩:∃r i a h l,xs=[r,i,a,h,l]:=by
   match xs,hlen with
   | [a,b,c,d,e],_=>exact ⟨a,b,c,d,e,rfl⟩
  have hr:=R3e B0h C0a abV r i a hw l cc x lo hi step
  unfold sqSt at hr
  rw[hr]
  obtain ⟨h1,h2⟩:=V3u (r:=r) (i:=i) (h:=hw) (l:=l) hpre
  by_cases hge:i≥0
  ·obtain ⟨k1,k2,k3,k4⟩:=h1 hge
   simp only[hge,k1,k2,k3,decide_true,decide_false,cond_true,cond_false]
   have key:∀r',bpre r' (i-1) hw l=true∧bR r' (i-1) hw l=bR r i hw l∧(i-1+1).toNat<(i+1).toNat →
     ∃ys,ys.length=J0k sqSl+P0a C1v∧B2u ys=true∧(ys.getD 1 0+1).toNat<([r,i,a,hw,l].getD 1 0+1).toNat∧H1e ys=H1e [r,i,a,hw,l] ∧
      (some (Ex.normal,lrSt 40 sqSl sqFx sqG cc C1v [r',i-1,a,hw,l] x lo hi step):Option (Ex×St))=some (.normal,lrSt 40 sqSl sqFx sqG cc C1v ys x lo hi step):=by
    intro r' hr'
    exact ⟨[r',i-1,a,hw,l],rfl,hr'.1,by simpa only[List.getD_cons_succ,List.getD_cons_zero]using hr'.2.2,by simp only[H1e,L1u,hr'.2.1],rfl⟩
   cases hc:!abV (⟨(C0a (⟨G0u r i⟩,⟨G0u r i⟩,())).h,(C0a (⟨G0u r i⟩,⟨G0u r i⟩,())).l⟩,⟨hw,l⟩,())<;>rw[hc]at k4
   ·exact .inl (key _ (k4 _ rfl))
   ·exact .inl (key _ (k4 _ rfl))
  ·obtain ⟨rfl,k2⟩:=h2 hge
   simp only[hge,decide_false,cond_false]
   refine .inr ?_
   simp only[H1e,L1u,k2]
 ·simp[W0r,W1d]at hh
theorem H5g:∀fn c,Tryz.prog.funcs[39]?=some fn→fn.body=some c→HFit Tryz.prog fn.ntmps U1j c:=by
 intro fn c hf hb
 rw[Tryz.func39]at hf
 cases hf
 have hc:Tryz.f39.body.getD .skip=c:=by rw[hb];rfl
 rw[D4t]
 have hL:=X2a
 rw[hc]at hL
 refine HFit.of fun p hp h hh s s' hs=>?_
 rw[hL]at hp
 simp only[List.mem_cons,List.not_mem_nil,or_false]at hp
 rcases hp with rfl | rfl
 ·have:h=Y0j 55 nmSl nmFx nmG B1c A2w G1k:=(Option.some.inj hh).symm
  subst this
  refine C4u C3g (F:=50) (wy:={quiet:=B0p [(125,S0c B0h C0a),(127,S0 abV)]}) (fun xs=>(xs.getD 1 0+1).toNat) ?_ s s' hs
  intro xs hlen hpre cc x lo hi step
  obtain ⟨r,i,a,b,c,hw,l,rfl⟩:∃r i a b c h l,xs=[r,i,a,b,c,h,l]:=by
   match xs,hlen with
   | [a,b,c,d,e,f,g],_=>exact ⟨a,b,c,d,e,f,g,rfl⟩
  have hr:=L3t B0h C0a abV r i a b c hw l cc x lo hi step
  unfold nmSt at hr
  rw[hr]
  obtain ⟨h1,h2⟩:=V3u (r:=r) (i:=i) (h:=hw) (l:=l) hpre
  by_cases hge:i≥0
  ·obtain ⟨k1,k2,k3,k4⟩:=h1 hge
   simp only[hge,k1,k2,k3,decide_true,decide_false,cond_true,cond_false]
   have key:∀r',bpre r' (i-1) hw l=true∧bR r' (i-1) hw l=bR r i hw l∧(i-1+1).toNat<(i+1).toNat →
     ∃ys,ys.length=J0k nmSl+P0a B1c∧A2w ys=true∧(ys.getD 1 0+1).toNat<([r,i,a,b,c,hw,l].getD 1 0+1).toNat∧G1k ys=G1k [r,i,a,b,c,hw,l] ∧
      (some (Ex.normal,lrSt 55 nmSl nmFx nmG cc B1c [r',i-1,a,b,c,hw,l] x lo hi step):Option (Ex×St))=some (.normal,lrSt 55 nmSl nmFx nmG cc B1c ys x lo hi step):=by
    intro r' hr'
    exact ⟨[r',i-1,a,b,c,hw,l],rfl,hr'.1,by simpa only[List.getD_cons_succ,List.getD_cons_zero]using hr'.2.2,by simp only[G1k,K1j,hr'.2.1],rfl⟩
   cases hc:!abV (⟨(C0a (⟨G0u r i⟩,⟨G0u r i⟩,())).h,(C0a (⟨G0u r i⟩,⟨G0u r i⟩,())).l⟩,⟨hw,l⟩,())<;>rw[hc]at k4
   ·exact .inl (key _ (k4 _ rfl))
   ·exact .inl (key _ (k4 _ rfl))
  ·obtain ⟨rfl,k2⟩:=h2 hge
   simp only[hge,decide_false,cond_false]
   refine .inr ?_
   simp only[G1k,K1j,k2]
 ·simp[W0r,U1j]at hh
theorem V3m{α ω:Type}[Args α][Cod ω]{P:Program}{E:Env}(hG:GamOk P E.gam){hB:M0e}{f:FuncId}{e:TypeId}{g:Bool→α→ω×Bool}(hfit:∀fn c,P.funcs[f]?=some fn→fn.body=some c→HFit P fn.ntmps hB c)(d:Nat)
  (h:∀b a,fnSum P E hB d f (.ptr 0 0 :: Args.encs a) (row e b)=some (.val (Cod.enc (g b a).1),row e (g b a).2)):A0h P f (S e g):=by
 refine C1x hG hfit fun args cs r cs' hs=>?_
 obtain ⟨b,a,rfl,rfl,rfl,rfl⟩:=C2y hs
 exact ⟨by simp[row],d,h b a⟩
theorem C2z{α ω:Type}[Args α][Cod ω]{P:Program}{E:Env}(hG:GamOk P E.gam){hB:M0e}{f:FuncId}{e:TypeId}{pre:α→Bool}{g:Bool→α→ω×Bool}(hfit:∀fn c,P.funcs[f]?=some fn→fn.body=some c→HFit P fn.ntmps hB c)(d:Nat)
  (h:∀b a,pre a=true→fnSum P E hB d f (.ptr 0 0 :: Args.encs a) (row e b)=some (.val (Cod.enc (g b a).1),row e (g b a).2)):A0h P f (Sc e pre g):=by
 refine C1x hG hfit fun args cs r cs' hs=>?_
 obtain ⟨b,a,hp,rfl,rfl,rfl,rfl⟩:=B3e hs
 exact ⟨by simp[row],d,h b a hp⟩
theorem H2b{f:Bool}{q:Int}(h0:0≤q)(h1:q<9223372036854775808):gvU f (⟨q⟩,false,())=bif decide (q>4611686018427387904) then (0,true) else (q,f):=by
 unfold gvU
 dsimp only
 rw[A0q (z:=q) (by omega) (by omega)]
 rfl
theorem J5b:A0h Tryz.prog 157 (S 59 (op1 J1r)):=by
 have hG:GamOk Tryz.prog [(125,S0c B0h C0a),(128,S 59 gvU)]:=.cons X2k (.cons M3z .nil)
 refine V3m (E:={gam:=[(125,S0c B0h C0a),(128,S 59 gvU)]}) hG (hB:=W1d) M5e 20 fun f p=>?_
 obtain ⟨a,_⟩:=p
 refine ((R3h B0h C0a gvU B2u (fun r i _ h l=>bR r i h l) a f).trans (C1h _ _ _)).trans ?_
 show _=some (AV.val (Cod.enc (J1r f a).1),row 59 (J1r f a).2)
 unfold J1r
 cases hb:(f||!C0r [a]) with
 | true=>rfl
 | false =>
  simp only[Bool.or_eq_false_iff,Bool.not_eq_false',C0r,Bool.and_true,G0e]at hb
  obtain ⟨rfl,ha⟩:=hb
  by_cases h0:a<0
  ·simp only[h0,decide_true,cond_true];rfl
  ·have hw:IntKind.u64.wrap a=a:=A0r (by omega) (by omega)
   have hm:B0h (⟨a⟩,⟨1099511627776⟩,())=true:=by simp only[B0h,word,Bool.and_eq_true,decide_eq_true_eq];omega
   have hv:C0a (⟨a⟩,⟨1099511627776⟩,())=⟨a*1099511627776 / 18446744073709551616,a*1099511627776 % 18446744073709551616⟩:=rfl
   obtain ⟨b0,b1⟩:=H1g (a:=a) (by omega) (by omega)
   obtain ⟨i0,i1⟩:=H2q b0 b1
   simp only[h0,hw,hm,hv,decide_false,cond_false,cond_true,Bool.not_false,Bool.not_true]
   have hpre:B2u [0,51,a,a*1099511627776 / 18446744073709551616,a*1099511627776 % 18446744073709551616]=true:=by
    have e102:(2:Int)^102=5070602400912917605986812821504:=by decide
    simp only[B2u,bpre,word,Bool.and_eq_true,decide_eq_true_eq]
    refine ⟨by omega,by omega,by omega,by omega,by omega,by decide⟩
   have hR:bR 0 51 (a*1099511627776 / 18446744073709551616) (a*1099511627776 % 18446744073709551616)=isq (a*1099511627776):=by
    unfold bR
    rw[show a*1099511627776 / 18446744073709551616*18446744073709551616+a*1099511627776 % 18446744073709551616=a*1099511627776 by omega]
    exact H3w b0 (Int.lt_of_lt_of_le b1 (by decide))
   rw[hpre,hR,cond_true,H2b i0 (by omega),show decide (isq (a*1099511627776)>4611686018427387904)=false by simp;omega]
   rfl
theorem K4m:A0h Tryz.prog 39 (S 59 (op3 E0g)):=by
 have hG:GamOk Tryz.prog [(125,S0c B0h C0a),(128,S 59 gvU),(124,S0 adV),(126,S0 szU)]:=.cons X2k (.cons M3z (.cons N3a (.cons K4q .nil)))
 refine V3m (E:={gam:=[(125,S0c B0h C0a),(128,S 59 gvU),(124,S0 adV),(126,S0 szU)]}) hG (hB:=U1j) H5g 20 fun f p=>?_
 obtain ⟨a,b,c,_⟩:=p
 refine ((L3x B0h C0a adV szU gvU A2w bR a b c f).trans (C1h _ _ _)).trans ?_
 show _=some (AV.val (Cod.enc (E0g f a b c).1),row 59 (E0g f a b c).2)
 unfold E0g
 cases hb:(f||!C0r [a,b,c]) with
 | true=>rfl
 | false =>
  obtain ⟨rfl,ha,hb',hc⟩:=L3z hb
  obtain ⟨a3,a4⟩:=G0g ha
  obtain ⟨b3,b4⟩:=G0g hb'
  obtain ⟨c3,c4⟩:=G0g hc
  obtain ⟨a5,a6⟩:=N0y ha
  obtain ⟨b5,b6⟩:=N0y hb'
  obtain ⟨c5,c6⟩:=N0y hc
  have hm:∀x:Int,0≤x→x≤4611686018427387904→B0h (⟨x⟩,⟨x⟩,())=true:=by
   intro x h0 h1
   simp only[B0h,word,Bool.and_eq_true,decide_eq_true_eq];omega
  have hok:∀N:Int,0≤N→N≤63802943797675961899382738893456539648→(Wd.mk (N / 18446744073709551616) (N % 18446744073709551616)).ok=true∧(Wd.mk (N / 18446744073709551616) (N % 18446744073709551616)).val=N:=by
   intro N h0 h1
   simp only[Wd.ok,Wd.val,word,Bool.and_eq_true,decide_eq_true_eq];omega
  have hsum:∀M N:Int,0≤M→0≤N→M+N≤63802943797675961899382738893456539648→adV (⟨M / 18446744073709551616,M % 18446744073709551616⟩,⟨N / 18446744073709551616,N % 18446744073709551616⟩,())=⟨(M+N) / 18446744073709551616,(M+N) % 18446744073709551616⟩:=by
   intro M N h0 h1 h2
   obtain ⟨k1,k2⟩:=R1t (hok M h0 (by omega)).1 (hok N h1 (by omega)).1
   rw[(hok M h0 (by omega)).2,(hok N h1 (by omega)).2,Int.emod_eq_of_lt (a:=M+N) (by omega) (by omega)]at k2
   generalize adV (⟨M / 18446744073709551616,M % 18446744073709551616⟩,⟨N / 18446744073709551616,N % 18446744073709551616⟩,())=D at *
   obtain ⟨dh,dl⟩:=D
   simp only[Wd.ok,Wd.val,word,Bool.and_eq_true,decide_eq_true_eq]at k1 k2
   congr 1<;>omega
  have ht:∀x:Int,C0a (⟨x⟩,⟨x⟩,())=⟨x*x / 18446744073709551616,x*x % 18446744073709551616⟩:=fun x=>rfl
  simp only[X0r ha,X0r hb',X0r hc,hm _ a3 a4,hm _ b3 b4,hm _ c3 c4,ht,K1a,Bool.not_false,Bool.not_true,cond_false,cond_true,hsum _ _ a5 b5 (by omega),hsum (a*a+b*b) (c*c) (by omega) c5 (by omega)]
  generalize hW:a*a+b*b+c*c=W at *
  have e126:(2:Int)^126=85070591730234615865843651857942052864:=by decide
  have e63:(2:Int)^63=9223372036854775808:=by decide
  obtain ⟨i0,i1,_,_⟩:=L0k (W:=W) (by omega) (by omega)
  have hpre:A2w [0,62,a,b,c,W / 18446744073709551616,W % 18446744073709551616]=true:=by
   simp only[A2w,bpre,word,Bool.and_eq_true,decide_eq_true_eq]
   refine ⟨by omega,by omega,by omega,by omega,by omega,by decide⟩
  have hR:bR 0 62 (W / 18446744073709551616) (W % 18446744073709551616)=isq W:=by
   unfold bR
   rw[show W / 18446744073709551616*18446744073709551616+W % 18446744073709551616=W by omega]
   rfl
  rw[hpre,hR,cond_true,H2b i0 (by omega)]
  cases decide (isq W>4611686018427387904)<;>rfl
def opsF:Ops:={add:=fadd,sub:=fsub,mul:=fmul,div:=fdiv,mod:=fmod,part:=G0m,norm:=E0g,sqrt:=J1r}
def gamN(o:Ops):Gam:=[(63,S 57 (op2 o.add)),(60,S 57 (op2 o.sub)),(64,S 57 (op2 o.mul)),(140,S 57 (op2 o.div)),(217,S 57 (op2 o.mod)),(65,S 57 (op3 o.part)),(195,S 57 (op3 o.norm)),(141,S 57 (op1 o.sqrt)),(131,S 57 E2w),
 (76,S 59 (op2 o.add)),(77,S 59 (op2 o.sub)),(80,S 59 (op2 o.mul)),(114,S 59 (op2 o.div)),(185,S 59 (op2 o.mod)),(82,S 59 (op3 o.part)),(39,S 59 (op3 o.norm)),(157,S 59 (op1 o.sqrt)),(113,S 59 E2w)]
theorem A0u:GamOk Tryz.prog (gamN opsF) :=
 .cons N2b (.cons X2j (.cons N2a (.cons H5z (.cons ok56 (.cons M2z (.cons J5d (.cons J5a (.cons K4j
 (.cons X2h (.cons M3w (.cons X2g (.cons J5c (.cons M3x (.cons K4k (.cons K4m (.cons J5b (.cons H5x .nil)))))))))))))))))
theorem P2n{ω:Type}[Cod ω]{c g:Bool}{F:Bool→ω×Bool}{e:TypeId}:(bif c then some (AV.val (Cod.enc (F true).1),row e (F true).2) else some (AV.val (Cod.enc (F g).1),row e (F g).2)) =
    some (AV.val (Cod.enc (F (bif c then true else g)).1),row e (F (bif c then true else g)).2):=by cases c<;>rfl
def E0t(o:Ops)(b:Bool)(p:V3×Unit):Int×Bool:=o.norm b p.1.x p.1.y p.1.z
def D3k(o:Ops)(u:V3)(n:Int)(f:Bool):V3×Bool:=P0e f (fun b=>o.div b u.x n) (fun b=>o.div b u.y n) (fun b=>o.div b u.z n)
def Y0p(o:Ops)(u:V3)(n:Int)(f:Bool):V3×Bool:=P0d (D3k o u n f)
def N0q(o:Ops)(b:Bool)(p:V3×Unit):V3×Bool :=
  Y0p o p.1 (E0t o b p).1 (bif decide ((E0t o b p).1<1048576) then true else (E0t o b p).2)
theorem D4u(o:Ops)(b:Bool)(u:V3):fnSum Tryz.prog {gam:=gamN o} [] 20 137 [.ptr 0 0,.val (Cod.enc u)] (row 57 b)=some (.val (Cod.enc (E0t o b (u,())).1),row 57 (E0t o b (u,())).2):=by kernel_rfl
theorem D4v(o:Ops)(b:Bool)(u:V3):fnSum Tryz.prog {gam:=gamN o} [] 20 100 [.ptr 0 0,.val (Cod.enc u)] (row 59 b)=some (.val (Cod.enc (E0t o b (u,())).1),row 59 (E0t o b (u,())).2):=by kernel_rfl
def T2j(o:Ops)(e:TypeId)(u:V3)(n:Int)(f:Bool):Option (AV×List Con) :=
  bif (Y0p o u n f).2 then some (.val (Cod.enc V3.zero),row e (Y0p o u n f).2) else some (.val (Cod.enc (D3k o u n f).1),row e (Y0p o u n f).2)
theorem Z0h(o:Ops)(e:TypeId)(u:V3)(n:Int)(f:Bool):T2j o e u n f=some (.val (Cod.enc (Y0p o u n f).1),row e (Y0p o u n f).2):=pull
theorem R4e(o:Ops)(b:Bool)(u:V3):fnSum Tryz.prog {gam:=gamN o} [] 20 51 [.ptr 0 0,.val (Cod.enc u)] (row 57 b)=some (.val (Cod.enc (N0q o b (u,())).1),row 57 (N0q o b (u,())).2):=by
  refine Eq.trans (?_:_=bif decide ((E0t o b (u,())).1<1048576) then T2j o 57 u (E0t o b (u,())).1 true else T2j o 57 u (E0t o b (u,())).1 (E0t o b (u,())).2) ?_
  · kernel_rfl
  · rw[Z0h,Z0h];exact P2n
theorem R4g(o:Ops)(b:Bool)(u:V3):fnSum Tryz.prog {gam:=gamN o} [] 20 68 [.ptr 0 0,.val (Cod.enc u)] (row 59 b)=some (.val (Cod.enc (N0q o b (u,())).1),row 59 (N0q o b (u,())).2):=by
  refine Eq.trans (?_:_=bif decide ((E0t o b (u,())).1<1048576) then T2j o 59 u (E0t o b (u,())).1 true else T2j o 59 u (E0t o b (u,())).1 (E0t o b (u,())).2) ?_
  · kernel_rfl
  · rw[Z0h,Z0h];exact P2n
theorem ok66:A0h Tryz.prog 137 (S 57 (E0t opsF)):=S_ok A0u 20 fun b a=>D4u opsF b a.1
theorem ok67:A0h Tryz.prog 100 (S 59 (E0t opsF)):=S_ok A0u 20 fun b a=>D4v opsF b a.1
theorem ok68:A0h Tryz.prog 51 (S 57 (N0q opsF)):=S_ok A0u 20 fun b a=>R4e opsF b a.1
theorem ok69:A0h Tryz.prog 68 (S 59 (N0q opsF)):=S_ok A0u 20 fun b a=>R4g opsF b a.1
structure VOps where
  add:Bool→V3×V3×Unit→V3×Bool
  sub:Bool→V3×V3×Unit→V3×Bool
  scale:Bool→V3×Int×Unit→V3×Bool
  cross:Bool→V3×V3×Unit→V3×Bool
  dot:Bool→V3×V3×Unit→Int×Bool
  norm:Bool→V3×Unit→Int×Bool
  unit:Bool→V3×Unit→V3×Bool
def gamV(v:VOps):Gam:=[(146,S 57 v.add),(132,S 57 v.sub),(144,S 57 v.scale),(145,S 57 v.cross),(198,S 57 v.dot),(137,S 57 v.norm),(51,S 57 v.unit),
  (85,S 59 v.add),(158,S 59 v.sub),(119,S 59 v.scale),(120,S 59 v.cross),(121,S 59 v.dot),(100,S 59 v.norm),(68,S 59 v.unit)]
def E0b:VOps:={add:=vop fadd,sub:=vop fsub,scale:=M0y fmul,cross:=M0x opsM,dot:=R1e opsM,norm:=E0t opsF,unit:=N0q opsF}
theorem ok50:A0h Tryz.prog 146 (S 57 (vop fadd)):=S_ok J1v 20 fun b a=>V4r ops0 b a.1 a.2.1
theorem ok51:A0h Tryz.prog 85 (S 59 (vop fadd)):=S_ok J1v 20 fun b a=>V4t ops0 b a.1 a.2.1
theorem ok52:A0h Tryz.prog 132 (S 57 (vop fsub)):=S_ok J1v 20 fun b a=>M5w ops0 b a.1 a.2.1
theorem ok53:A0h Tryz.prog 158 (S 59 (vop fsub)):=S_ok J1v 20 fun b a=>M5x ops0 b a.1 a.2.1
theorem J1y:GamOk Tryz.prog (gamV E0b) :=
  .cons ok50 (.cons ok52 (.cons ok44 (.cons ok48 (.cons ok46 (.cons ok66 (.cons ok68 (.cons ok51 (.cons ok53 (.cons ok45 (.cons ok49 (.cons ok47 (.cons ok67 (.cons ok69 .nil)))))))))))))
def A3v(v:VOps)(x y:V3)(b:Bool):Two Int Int×Bool :=
  (⟨(v.norm (v.cross b (x,y,())).2 ((v.cross b (x,y,())).1,())).1,(v.dot (v.norm (v.cross b (x,y,())).2 ((v.cross b (x,y,())).1,())).2 (x,y,())).1⟩,
   (v.dot (v.norm (v.cross b (x,y,())).2 ((v.cross b (x,y,())).1,())).2 (x,y,())).2)
def U0c(v:VOps)(b:Bool)(p:V3×V3×Unit):Two Int Int×Bool :=
  A3v v (v.unit b (p.1,())).1 (v.unit (v.unit b (p.1,())).2 (p.2.1,())).1 (v.unit (v.unit b (p.1,())).2 (p.2.1,())).2
def H0r(v:VOps)(b:Bool)(p:V3×V3×Unit):Two Int Int×Bool:=(bif (U0c v b p).2 then ⟨0,0⟩ else (U0c v b p).1,(U0c v b p).2)
theorem P3k(v:VOps)(b:Bool)(x y:V3):fnSum Tryz.prog {gam:=gamV v} [] 20 222 [.ptr 0 0,.val (Cod.enc x),.val (Cod.enc y)] (row 57 b)=some (.val (Cod.enc (H0r v b (x,y,())).1),row 57 (H0r v b (x,y,())).2):=by
  refine Eq.trans (?_:_=bif (U0c v b (x,y,())).2 then some (.val (Cod.enc (Two.mk (0:Int) (0:Int))),row 57 (U0c v b (x,y,())).2) else some (.val (Cod.enc (U0c v b (x,y,())).1),row 57 (U0c v b (x,y,())).2)) pull
  kernel_rfl
theorem ok74:A0h Tryz.prog 222 (S 57 (H0r E0b)):=S_ok J1y 20 fun b a=>P3k E0b b a.1 a.2.1
abbrev w64(x:Int):Int:=IntKind.i64.wrap x
def serN(o:Ops)(fi u:Int):List Int→Int×Bool→Int×Bool
 | [],z=>z
 | n :: r,z =>
  let m:=o.mul z.2 u z.1
  let p:=o.part m.2 m.1 1 (w64 (w64 (w64 (n+fi)-1)*w64 (n+fi)))
  serN o fi u r (o.sub p.2 1099511627776 p.1)
def serU(o:Ops)(b:Bool)(t fi:Int):Int×Bool :=
 let u:=o.mul b t t
 serN o fi u.1 [20,18,16,14,12,10,8,6,4,2] (1099511627776,u.2)
def serS(o:Ops)(b:Bool)(t:Int):Int×Bool:=o.mul (serU o b t 1).2 t (serU o b t 1).1
def serF(o:Ops)(b:Bool)(p:Int×Int×Unit):Int×Bool:=bif p.2.1==1 then o.mul (serU o b p.1 p.2.1).2 p.1 (serU o b p.1 p.2.1).1 else serU o b p.1 p.2.1
theorem N4u(o:Ops)(b:Bool)(t fi:Int):fnSum Tryz.prog {gam:=gamN o} [] 20 253 [.ptr 0 0,.val (.int .i64 t),.val (.int .i64 fi)] (row 57 b) =
  bif fi==1 then some (.val (Cod.enc (o.mul (serU o b t fi).2 t (serU o b t fi).1).1),row 57 (o.mul (serU o b t fi).2 t (serU o b t fi).1).2) else some (.val (Cod.enc (serU o b t fi).1),row 57 (serU o b t fi).2):=by kernel_rfl
theorem N4z(o:Ops)(b:Bool)(t:Int):fnSum Tryz.prog {gam:=gamN o} [] 20 234 [.ptr 0 0,.val (.int .i64 t)] (row 59 b) =
  some (.val (Cod.enc (serS o b t).1),row 59 (serS o b t).2):=by kernel_rfl
theorem W3n(o:Ops)(b:Bool)(t:Int):fnSum Tryz.prog {gam:=gamN o} [] 20 235 [.ptr 0 0,.val (.int .i64 t)] (row 59 b) =
  some (.val (Cod.enc (serU o b t 0).1),row 59 (serU o b t 0).2):=by kernel_rfl
theorem J5p:A0h Tryz.prog 253 (S 57 (serF opsF)):=S_ok A0u 20 fun b a=>by
 refine (N4u opsF b a.1 a.2.1).trans ?_
 unfold serF
 cases a.2.1==1<;>rfl
theorem K4r:A0h Tryz.prog 234 (S 59 fun b (p:Int×Unit)=>serS opsF b p.1):=S_ok A0u 20 fun b a=>N4z opsF b a.1
theorem K4t:A0h Tryz.prog 235 (S 59 fun b (p:Int×Unit)=>serU opsF b p.1 0):=S_ok A0u 20 fun b a=>W3n opsF b a.1
theorem R3w(md:Bool→Int×Int×Unit→Int×Bool)(se:Bool→Int×Int×Unit→Int×Bool)(b:Bool)(a q:Int):fnSum Tryz.prog {gam:=[(217,S 57 md),(253,S 57 se)]} [] 20 244 [.ptr 0 0,.val (.int .i64 a),.val (.int .i64 q)] (row 57 b)=(bif bif false then true else (md b (a,6908435304716,())).snd then some (AV.val (.int .i64 0),[Con.row 57 [.val (.bool (md b (a,6908435304716,())).snd)]]) else bif decide ((w64 (w64 ((md b (a,6908435304716,())).fst.tdiv 1727108826179)+q)).tmod 4>1) then some (AV.val (.int .i64 (w64 (0-(se (md b (a,6908435304716,())).snd ((md b (a,6908435304716,())).fst.tmod 1727108826179,w64 (1-((w64 (w64 ((md b (a,6908435304716,())).fst.tdiv 1727108826179)+q)).tmod 4).tmod 2),())).fst))),[Con.row 57 [AV.val (Value.bool (se (md b (a,6908435304716,())).snd ((md b (a,6908435304716,())).fst.tmod 1727108826179,w64 (1-((w64 (w64 ((md b (a,6908435304716,())).fst.tdiv 1727108826179)+q)).tmod 4).tmod 2),())).snd)]]) else some (AV.val (.int .i64 (se (md b (a,6908435304716,())).snd ((md b (a,6908435304716,())).fst.tmod 1727108826179,w64 (1-((w64 (w64 ((md b (a,6908435304716,())).fst.tdiv 1727108826179)+q)).tmod 4).tmod 2),())).fst),[Con.row 57 [AV.val (Value.bool (se (md b (a,6908435304716,())).snd ((md b (a,6908435304716,())).fst.tmod 1727108826179,w64 (1-((w64 (w64 ((md b (a,6908435304716,())).fst.tdiv 1727108826179)+q)).tmod 4).tmod 2),())).snd)]])):=by kernel_rfl
theorem N4y(md:Bool→Int×Int×Unit→Int×Bool)(sn cs:Bool→Int×Unit→Int×Bool)(b:Bool)(a:Int):fnSum Tryz.prog {gam:=[(185,S 59 md),(234,S 59 sn),(235,S 59 cs)]} [] 20 183 [.ptr 0 0,.val (.int .i64 a)] (row 59 b)=(bif (md b (a,6908435304716,())).snd then some (AV.val (.int .i64 0),[Con.row 59 [AV.val (Value.bool (md b (a,6908435304716,())).snd)]]) else bif w64 ((md b (a,6908435304716,())).fst.tdiv 1727108826179)==0 then some (AV.val (.int .i64 (sn (md b (a,6908435304716,())).snd (w64 ((md b (a,6908435304716,())).fst-w64 (w64 ((md b (a,6908435304716,())).fst.tdiv 1727108826179)*1727108826179)),())).fst),[Con.row 59 [AV.val (Value.bool (sn (md b (a,6908435304716,())).snd (w64 ((md b (a,6908435304716,())).fst-w64 (w64 ((md b (a,6908435304716,())).fst.tdiv 1727108826179)*1727108826179)),())).snd)]]) else bif w64 ((md b (a,6908435304716,())).fst.tdiv 1727108826179)==1 then some (AV.val (.int .i64 (cs (md b (a,6908435304716,())).snd (w64 ((md b (a,6908435304716,())).fst-w64 (w64 ((md b (a,6908435304716,())).fst.tdiv 1727108826179)*1727108826179)),())).fst),[Con.row 59 [AV.val (Value.bool (cs (md b (a,6908435304716,())).snd (w64 ((md b (a,6908435304716,())).fst-w64 (w64 ((md b (a,6908435304716,())).fst.tdiv 1727108826179)*1727108826179)),())).snd)]]) else bif w64 ((md b (a,6908435304716,())).fst.tdiv 1727108826179)==2 then some (AV.val (.int .i64 (w64 (0-(sn (md b (a,6908435304716,())).snd (w64 ((md b (a,6908435304716,())).fst-w64 (w64 ((md b (a,6908435304716,())).fst.tdiv 1727108826179)*1727108826179)),())).fst))),[Con.row 59 [AV.val (Value.bool (sn (md b (a,6908435304716,())).snd (w64 ((md b (a,6908435304716,())).fst-w64 (w64 ((md b (a,6908435304716,())).fst.tdiv 1727108826179)*1727108826179)),())).snd)]]) else some (AV.val (.int .i64 (w64 (0-(cs (md b (a,6908435304716,())).snd (w64 ((md b (a,6908435304716,())).fst-w64 (w64 ((md b (a,6908435304716,())).fst.tdiv 1727108826179)*1727108826179)),())).fst))),[Con.row 59 [AV.val (Value.bool (cs (md b (a,6908435304716,())).snd (w64 ((md b (a,6908435304716,())).fst-w64 (w64 ((md b (a,6908435304716,())).fst.tdiv 1727108826179)*1727108826179)),())).snd)]])):=by kernel_rfl
theorem W3m(md:Bool→Int×Int×Unit→Int×Bool)(sn cs:Bool→Int×Unit→Int×Bool)(b:Bool)(a:Int):fnSum Tryz.prog {gam:=[(185,S 59 md),(234,S 59 sn),(235,S 59 cs)]} [] 20 184 [.ptr 0 0,.val (.int .i64 a)] (row 59 b)=(bif (md b (a,6908435304716,())).snd then some (AV.val (.int .i64 0),[Con.row 59 [AV.val (Value.bool (md b (a,6908435304716,())).snd)]]) else bif w64 ((md b (a,6908435304716,())).fst.tdiv 1727108826179)==0 then some (AV.val (.int .i64 (cs (md b (a,6908435304716,())).snd (w64 ((md b (a,6908435304716,())).fst-w64 (w64 ((md b (a,6908435304716,())).fst.tdiv 1727108826179)*1727108826179)),())).fst),[Con.row 59 [AV.val (Value.bool (cs (md b (a,6908435304716,())).snd (w64 ((md b (a,6908435304716,())).fst-w64 (w64 ((md b (a,6908435304716,())).fst.tdiv 1727108826179)*1727108826179)),())).snd)]]) else bif w64 ((md b (a,6908435304716,())).fst.tdiv 1727108826179)==1 then some (AV.val (.int .i64 (w64 (0-(sn (md b (a,6908435304716,())).snd (w64 ((md b (a,6908435304716,())).fst-w64 (w64 ((md b (a,6908435304716,())).fst.tdiv 1727108826179)*1727108826179)),())).fst))),[Con.row 59 [AV.val (Value.bool (sn (md b (a,6908435304716,())).snd (w64 ((md b (a,6908435304716,())).fst-w64 (w64 ((md b (a,6908435304716,())).fst.tdiv 1727108826179)*1727108826179)),())).snd)]]) else bif w64 ((md b (a,6908435304716,())).fst.tdiv 1727108826179)==2 then some (AV.val (.int .i64 (w64 (0-(cs (md b (a,6908435304716,())).snd (w64 ((md b (a,6908435304716,())).fst-w64 (w64 ((md b (a,6908435304716,())).fst.tdiv 1727108826179)*1727108826179)),())).fst))),[Con.row 59 [AV.val (Value.bool (cs (md b (a,6908435304716,())).snd (w64 ((md b (a,6908435304716,())).fst-w64 (w64 ((md b (a,6908435304716,())).fst.tdiv 1727108826179)*1727108826179)),())).snd)]]) else some (AV.val (.int .i64 (sn (md b (a,6908435304716,())).snd (w64 ((md b (a,6908435304716,())).fst-w64 (w64 ((md b (a,6908435304716,())).fst.tdiv 1727108826179)*1727108826179)),())).fst),[Con.row 59 [AV.val (Value.bool (sn (md b (a,6908435304716,())).snd (w64 ((md b (a,6908435304716,())).fst-w64 (w64 ((md b (a,6908435304716,())).fst.tdiv 1727108826179)*1727108826179)),())).snd)]])):=by kernel_rfl
def circ(S U:Bool→Int→Int×Bool)(q:Int)(b:Bool)(a:Int):Int×Bool :=
 bif (fmod b a 6908435304716).2 then (0,true) else
  bif decide (((fmod b a 6908435304716).1 / 1727108826179+q) % 4=0) then S false ((fmod b a 6908435304716).1 % 1727108826179)
  else bif decide (((fmod b a 6908435304716).1 / 1727108826179+q) % 4=1) then U false ((fmod b a 6908435304716).1 % 1727108826179)
  else bif decide (((fmod b a 6908435304716).1 / 1727108826179+q) % 4=2) then (w64 (0-(S false ((fmod b a 6908435304716).1 % 1727108826179)).1),(S false ((fmod b a 6908435304716).1 % 1727108826179)).2)
  else (w64 (0-(U false ((fmod b a 6908435304716).1 % 1727108826179)).1),(U false ((fmod b a 6908435304716).1 % 1727108826179)).2)
theorem T1q{b:Bool}{a m r:Int}(hm:0<m)(h:fmod b a m=(r,false)):0≤r∧r<m:=by
 unfold fmod at h
 cases hc:(b||!C0r [a,m])
 ·rw[hc]at h
  have hd:decide (m≤0)=false:=decide_eq_false (by omega)
  rw[hd]at h
  simp only[cond_false,Prod.mk.injEq,and_true]at h
  subst h
  exact ⟨Int.emod_nonneg _ (by omega),Int.emod_lt_of_pos _ hm⟩
 ·rw[hc]at h
  simp at h
theorem T2r{z:Int}(h1:-9223372036854775808≤z)(h2:z<9223372036854775808):w64 z=z:=A0q h1 h2
theorem V1r{r:Int}(h0:0≤r)(h:r<6908435304716):r.tdiv 1727108826179=r / 1727108826179∧r.tmod 1727108826179=r % 1727108826179 ∧
  w64 (r-w64 (w64 (r / 1727108826179)*1727108826179))=r % 1727108826179∧(r / 1727108826179=0∨r / 1727108826179=1∨r / 1727108826179=2∨r / 1727108826179=3):=by
 refine ⟨Int.tdiv_eq_ediv_of_nonneg h0,Int.tmod_eq_emod_of_nonneg h0,?_,by omega⟩
 rw[T2r (z:=r / 1727108826179) (by omega) (by omega),T2r (z:=r / 1727108826179*1727108826179) (by omega) (by omega),T2r (by omega) (by omega)]
 omega
section
variable {S U:Bool→Int→Int×Bool} (b:Bool) (a:Int)
theorem E3m{se:Bool→Int×Int×Unit→Int×Bool}(h1:∀t,se false (t,1,())=S false t)(h0:∀t,se false (t,0,())=U false t)(q:Int)(hq:q=0∨q=1) :
  fnSum Tryz.prog {gam:=[(217,Ab.S 57 (op2 fmod)),(253,Ab.S 57 se)]} [] 20 244 [.ptr 0 0,.val (.int .i64 a),.val (.int .i64 q)] (row 57 b)=some (.val (Cod.enc (circ S U q b a).1),row 57 (circ S U q b a).2):=by
 rw[R3w]
 unfold circ op2
 dsimp only
 rcases hr:fmod b a 6908435304716 with ⟨r,f⟩
 cases f with
 | true=>rfl
 | false =>
  obtain ⟨k0,k1⟩:=T1q (by omega) hr
  obtain ⟨e1,e2,e3,e4⟩:=V1r k0 k1
  dsimp only
  rw[e1,e2]
  rcases hq with rfl | rfl<;>rcases e4 with e | e | e | e<;>rw[e]<;>first
   | (rw[show w64 (1-((w64 (w64 0+0)).tmod 4).tmod 2)=1 from rfl,h1];rfl)
   | (rw[show w64 (1-((w64 (w64 1+0)).tmod 4).tmod 2)=0 from rfl,h0];rfl)
   | (rw[show w64 (1-((w64 (w64 2+0)).tmod 4).tmod 2)=1 from rfl,h1];rfl)
   | (rw[show w64 (1-((w64 (w64 3+0)).tmod 4).tmod 2)=0 from rfl,h0];rfl)
   | (rw[show w64 (1-((w64 (w64 0+1)).tmod 4).tmod 2)=0 from rfl,h0];rfl)
   | (rw[show w64 (1-((w64 (w64 1+1)).tmod 4).tmod 2)=1 from rfl,h1];rfl)
   | (rw[show w64 (1-((w64 (w64 2+1)).tmod 4).tmod 2)=0 from rfl,h0];rfl)
   | (rw[show w64 (1-((w64 (w64 3+1)).tmod 4).tmod 2)=1 from rfl,h1];rfl)
theorem E3j:fnSum Tryz.prog {gam:=[(185,Ab.S 59 (op2 fmod)),(234,Ab.S 59 fun b (p:Int×Unit)=>S b p.1),(235,Ab.S 59 fun b (p:Int×Unit)=>U b p.1)]} [] 20 183 [.ptr 0 0,.val (.int .i64 a)] (row 59 b)=some (.val (Cod.enc (circ S U 0 b a).1),row 59 (circ S U 0 b a).2):=by
 rw[N4y]
 unfold circ
 unfold op2
 dsimp only
 rcases hr:fmod b a 6908435304716 with ⟨r,f⟩
 cases f with
 | true=>rfl
 | false =>
  obtain ⟨h0,h1⟩:=T1q (by omega) hr
  obtain ⟨e1,e2,e3,e4⟩:=V1r h0 h1
  dsimp only
  rw[e1,e3]
  rcases e4 with e | e | e | e<;>rw[e]<;>rfl
theorem E3k:fnSum Tryz.prog {gam:=[(185,Ab.S 59 (op2 fmod)),(234,Ab.S 59 fun b (p:Int×Unit)=>S b p.1),(235,Ab.S 59 fun b (p:Int×Unit)=>U b p.1)]} [] 20 184 [.ptr 0 0,.val (.int .i64 a)] (row 59 b)=some (.val (Cod.enc (circ S U 1 b a).1),row 59 (circ S U 1 b a).2):=by
 rw[W3m]
 unfold circ
 unfold op2
 dsimp only
 rcases hr:fmod b a 6908435304716 with ⟨r,f⟩
 cases f with
 | true=>rfl
 | false =>
  obtain ⟨h0,h1⟩:=T1q (by omega) hr
  obtain ⟨e1,e2,e3,e4⟩:=V1r h0 h1
  dsimp only
  rw[e1,e3]
  rcases e4 with e | e | e | e<;>rw[e]<;>rfl
end
def serC(b:Bool)(t:Int):Int×Bool:=serU opsF b t 0
def sinF(b:Bool)(a:Int):Int×Bool:=circ (serS opsF) serC 0 b a
def cosF(b:Bool)(a:Int):Int×Bool:=circ (serS opsF) serC 1 b a
theorem N4w(t:Int):serF opsF false (t,1,())=serS opsF false t:=by unfold serF serS;simp only[BEq.rfl,cond_true]
theorem N4v(t:Int):serF opsF false (t,0,())=serC false t:=by unfold serF serC;simp only[show ((0:Int)==1)=false from rfl,cond_false]
def preQ(p:Int×Int×Unit):Bool:=decide (p.2.1=0)||decide (p.2.1=1)
def R3x(b:Bool)(p:Int×Int×Unit):Int×Bool:=circ (serS opsF) serC p.2.1 b p.1
theorem P1r:A0h Tryz.prog 244 (Sc 57 preQ R3x):=K0h (E:={gam:=[(217,Ab.S 57 (op2 fmod)),(253,Ab.S 57 (serF opsF))]}) (.cons ok56 (.cons J5p .nil)) 20 fun b p hp=>by
 obtain ⟨a,q,u⟩:=p
 have hq:q=0∨q=1:=by simpa[preQ]using hp
 exact E3m b a N4w N4v q hq
theorem J5x:A0h Tryz.prog 214 (Ab.S 57 fun b (p:Int×Unit)=>sinF b p.1):=S_ok (E:={gam:=[(244,Sc 57 preQ R3x)]}) (.cons P1r .nil) 20 fun b a=>by kernel_rfl
theorem J5q:A0h Tryz.prog 215 (Ab.S 57 fun b (p:Int×Unit)=>cosF b p.1):=S_ok (E:={gam:=[(244,Sc 57 preQ R3x)]}) (.cons P1r .nil) 20 fun b a=>by kernel_rfl
theorem L4m:A0h Tryz.prog 183 (Ab.S 59 fun b (p:Int×Unit)=>sinF b p.1):=S_ok (E:={gam:=[(185,Ab.S 59 (op2 fmod)),(234,Ab.S 59 fun b (p:Int×Unit)=>serS opsF b p.1),(235,Ab.S 59 fun b (p:Int×Unit)=>serC b p.1)]}) (.cons M3x (.cons K4r (.cons K4t .nil))) 20 fun b a=>E3j b a.1
theorem K4u:A0h Tryz.prog 184 (Ab.S 59 fun b (p:Int×Unit)=>cosF b p.1):=S_ok (E:={gam:=[(185,Ab.S 59 (op2 fmod)),(234,Ab.S 59 fun b (p:Int×Unit)=>serS opsF b p.1),(235,Ab.S 59 fun b (p:Int×Unit)=>serC b p.1)]}) (.cons M3x (.cons K4r (.cons K4t .nil))) 20 fun b a=>E3k b a.1
def A0z(t:Int):Bool:=bif decide (0≤t) then decide (t≤157766400000) else false
theorem Q3k(t:Int):fnSum Tryz.prog {gam:=[]} [] 20 87 [.val (.int .i64 t)] []=bif decide (0≤t) then some (.val (.bool (decide (t≤157766400000))),[]) else some (.val (.bool false),[]):=by kernel_rfl
theorem Q3m(t:Int):fnSum Tryz.prog {gam:=[]} [] 20 94 [.val (.int .i64 t)] []=bif decide (0≤t) then some (.val (.bool (decide (t≤157766400000))),[]) else some (.val (.bool false),[]):=by kernel_rfl
theorem ok40:A0h Tryz.prog 87 (S0 fun (p:Int×Unit)=>A0z p.1):=H0n (E:={gam:=[]}) GamOk.nil 20 fun a=>by
 refine (Q3k a.1).trans ?_
 unfold A0z
 cases decide (0≤a.1)<;>rfl
theorem ok41:A0h Tryz.prog 94 (S0 fun (p:Int×Unit)=>A0z p.1):=H0n (E:={gam:=[]}) GamOk.nil 20 fun a=>by
 refine (Q3m a.1).trans ?_
 unfold A0z
 cases decide (0≤a.1)<;>rfl
def dayF(o:Ops)(t:Int)(f:Bool):Int×Bool:=o.part f 1099511627776 t 86400000
def E0r(o:Ops)(b:Bool)(p:Int×Unit):Int×Bool:=dayF o p.1 (bif !A0z p.1 then true else b)
def gamR(o:Ops)(rt:Int×Unit→Bool):Gam:=(87,S0 rt) :: (94,S0 rt) :: gamN o
theorem X3t(o:Ops)(rt:Int×Unit→Bool)(b:Bool)(t:Int):fnSum Tryz.prog {gam:=gamR o rt} [] 20 213 [.ptr 0 0,.val (.int .i64 t)] (row 57 b) =
  bif !rt (t,()) then some (.val (.int .i64 (dayF o t true).1),row 57 (dayF o t true).2) else some (.val (.int .i64 (dayF o t b).1),row 57 (dayF o t b).2):=by kernel_rfl
theorem X3u(o:Ops)(rt:Int×Unit→Bool)(b:Bool)(t:Int):fnSum Tryz.prog {gam:=gamR o rt} [] 20 182 [.ptr 0 0,.val (.int .i64 t)] (row 59 b) =
  bif !rt (t,()) then some (.val (.int .i64 (dayF o t true).1),row 59 (dayF o t true).2) else some (.val (.int .i64 (dayF o t b).1),row 59 (dayF o t b).2):=by kernel_rfl
theorem G2x:GamOk Tryz.prog (gamR opsF fun p=>A0z p.1):=.cons ok40 (.cons ok41 A0u)
theorem ok38:A0h Tryz.prog 213 (S 57 (E0r opsF)):=S_ok G2x 20 fun b a=>(X3t opsF (fun p=>A0z p.1) b a.1).trans (P2n (F:=dayF opsF a.1))
theorem ok39:A0h Tryz.prog 182 (S 59 (E0r opsF)):=S_ok G2x 20 fun b a=>(X3u opsF (fun p=>A0z p.1) b a.1).trans (P2n (F:=dayF opsF a.1))
def R4a(o:Ops)(t:Int)(d:Int)(f:Bool):Int×Bool :=
 let n:=o.part f 6908435304716 (t.tmod 86400000) 86400000
 let a:=o.add n.2 5399947124839 n.1
 let m:=o.mul a.2 18914669620 d
 let s:=o.add m.2 a.1 m.1
 o.mod s.2 s.1 6908435304716
def T2q(o:Ops)(dy:Bool→Int×Unit→Int×Bool)(b:Bool)(p:Int×Unit):Int×Bool:=R4a o p.1 (dy b p).1 (dy b p).2
theorem Q4y(o:Ops)(dy:Bool→Int×Unit→Int×Bool)(b:Bool)(t:Int):fnSum Tryz.prog {gam:=(213,S 57 dy) :: gamN o} [] 20 220 [.ptr 0 0,.val (.int .i64 t)] (row 57 b) =
  some (.val (.int .i64 (T2q o dy b (t,())).1),row 57 (T2q o dy b (t,())).2):=by kernel_rfl
theorem ok54:A0h Tryz.prog 220 (S 57 (T2q opsF (E0r opsF))):=S_ok (E:={gam:=(213,S 57 (E0r opsF)) :: gamN opsF}) (.cons ok38 A0u) 20 fun b a=>Q4y opsF (E0r opsF) b a.1
structure Orb where
 a:Int
 e:Int
 i:Int
 node:Int
 peri:Int
 m:Int
 tk:Int
instance:Cod Orb where
 enc o:=.agg #[.int .i64 o.a,.int .i64 o.e,.int .i64 o.i,.int .i64 o.node,.int .i64 o.peri,.int .i64 o.m,.int .i64 o.tk]
 dec v:=match v with | .agg ⟨[.int .i64 a,.int .i64 e,.int .i64 i,.int .i64 node,.int .i64 peri,.int .i64 m,.int .i64 tk]⟩=>some ⟨a,e,i,node,peri,m,tk⟩ | _=>none
 law v a h:=by split at h<;>simp_all;subst h;simp
def H3x(o:Ops)(sn cs:Bool→Int×Unit→Int×Bool)(e m:Int)(z:Int×Bool):Int×Bool :=
 let s:=sn z.2 (z.1,())
 let p:=o.mul s.2 e s.1
 let q:=o.sub p.2 z.1 p.1
 let v:=o.sub q.2 q.1 m
 let c:=cs v.2 (z.1,())
 let r:=o.mul c.2 e c.1
 let t:=o.sub r.2 1099511627776 r.1
 let d:=o.div t.2 v.1 t.1
 o.sub d.2 z.1 d.1
def kepN(o:Ops)(sn cs:Bool→Int×Unit→Int×Bool)(e m:Int):Nat→Int×Bool→Int×Bool
 | 0,z=>z
 | n+1,z=>kepN o sn cs e m n (H3x o sn cs e m z)
def kepF(o:Ops)(sn cs:Bool→Int×Unit→Int×Bool)(p:Int×Int×Unit)(b:Bool):Int×Bool:=kepN o sn cs p.2.1 p.1 6 (o.add b p.1 0)
def gamS(o:Ops)(sn cs:Bool→Int×Unit→Int×Bool):Gam:=(214,S 57 sn) :: (215,S 57 cs) :: (183,S 59 sn) :: (184,S 59 cs) :: gamN o
theorem C4e(o:Ops)(sn cs:Bool→Int×Unit→Int×Bool)(b:Bool)(m e:Int):fnSum Tryz.prog {gam:=gamS o sn cs} [] 20 216 [.ptr 0 0,.val (.int .i64 m),.val (.int .i64 e)] (row 57 b) =
  bif decide (e<0) then some (.val (Cod.enc (kepF o sn cs (m,e,()) true).1),row 57 (kepF o sn cs (m,e,()) true).2) else bif decide (e>109951162777) then some (.val (Cod.enc (kepF o sn cs (m,e,()) true).1),row 57 (kepF o sn cs (m,e,()) true).2) else some (.val (Cod.enc (kepF o sn cs (m,e,()) b).1),row 57 (kepF o sn cs (m,e,()) b).2):=by kernel_rfl
theorem C4d(o:Ops)(sn cs:Bool→Int×Unit→Int×Bool)(b:Bool)(m e:Int):fnSum Tryz.prog {gam:=gamS o sn cs} [] 20 186 [.ptr 0 0,.val (.int .i64 m),.val (.int .i64 e)] (row 59 b) =
  bif decide (e<0) then some (.val (Cod.enc (kepF o sn cs (m,e,()) true).1),row 59 (kepF o sn cs (m,e,()) true).2) else bif decide (e>109951162777) then some (.val (Cod.enc (kepF o sn cs (m,e,()) true).1),row 59 (kepF o sn cs (m,e,()) true).2) else some (.val (Cod.enc (kepF o sn cs (m,e,()) b).1),row 59 (kepF o sn cs (m,e,()) b).2):=by kernel_rfl
theorem M4e{ω:Type}[Cod ω]{c d b:Bool}{F:Bool→ω×Bool}{e:TypeId}:(bif c then some (AV.val (Cod.enc (F true).1),row e (F true).2) else bif d then some (AV.val (Cod.enc (F true).1),row e (F true).2) else some (AV.val (Cod.enc (F b).1),row e (F b).2)) =
  some (AV.val (Cod.enc (F (bif c then true else bif d then true else b)).1),row e (F (bif c then true else bif d then true else b)).2):=by cases c<;>cases d<;>rfl
def kepO(o:Ops)(sn cs:Bool→Int×Unit→Int×Bool)(b:Bool)(p:Int×Int×Unit):Int×Bool:=kepF o sn cs p (bif decide (p.2.1<0) then true else bif decide (p.2.1>109951162777) then true else b)
def sinV(b:Bool)(p:Int×Unit):Int×Bool:=sinF b p.1
def cosV(b:Bool)(p:Int×Unit):Int×Bool:=cosF b p.1
theorem A1e:GamOk Tryz.prog (gamS opsF sinV cosV):=.cons J5x (.cons J5q (.cons L4m (.cons K4u A0u)))
def kepV:Bool→Int×Int×Unit→Int×Bool:=kepO opsF sinV cosV
theorem J5u:A0h Tryz.prog 216 (S 57 kepV):=S_ok A1e 20 fun b a=>(C4e opsF sinV cosV b a.1 a.2.1).trans (M4e (F:=kepF opsF sinV cosV a))
theorem K4z:A0h Tryz.prog 186 (S 59 kepV):=S_ok A1e 20 fun b a=>(C4d opsF sinV cosV b a.1 a.2.1).trans (M4e (F:=kepF opsF sinV cosV a))
def E1b(o:Ops)(sn cs:Bool→Int×Unit→Int×Bool)(b:Bool)(p:Int×Int×Int×Unit):Two Int Int×Bool :=
 let c:=cs b (p.2.2.1,())
 let s:=sn c.2 (p.2.2.1,())
 let uc:=o.mul s.2 p.1 c.1
 let vs:=o.mul uc.2 p.2.1 s.1
 let x:=o.sub vs.2 uc.1 vs.1
 let us:=o.mul x.2 p.1 s.1
 let vc:=o.mul us.2 p.2.1 c.1
 let y:=o.add vc.2 us.1 vc.1
 (⟨x.1,y.1⟩,y.2)
theorem U2a(o:Ops)(sn cs:Bool→Int×Unit→Int×Bool)(b:Bool)(u v a:Int):fnSum Tryz.prog {gam:=gamS o sn cs} [] 20 218 [.ptr 0 0,.val (.int .i64 u),.val (.int .i64 v),.val (.int .i64 a)] (row 57 b) =
  some (.val (Cod.enc (E1b o sn cs b (u,v,a,())).1),row 57 (E1b o sn cs b (u,v,a,())).2):=by kernel_rfl
def V3n:Bool→Int×Int×Int×Unit→Two Int Int×Bool:=E1b opsF sinV cosV
theorem N3b:A0h Tryz.prog 218 (S 57 V3n):=S_ok A1e 20 fun b a=>U2a opsF sinV cosV b a.1 a.2.1 a.2.2.1
theorem r212(mu:Bool→Int×Int×Unit→Int×Bool)(rt:Int×Unit→Bool)(a e i n p m t:Int):fnSum Tryz.prog {gam:=[(87,S0 rt),(64,S 57 mu)]} [] 20 212 [.val (.agg #[.int .i64 a,.int .i64 e,.int .i64 i,.int .i64 n,.int .i64 p,.int .i64 m,.int .i64 t])] []=(bif decide (n < -6908435304716) then some (AV.val (Value.bool false),[]) else bif bif false then true else decide (n>6908435304716) then some (AV.val (Value.bool false),[]) else bif decide (p < -6908435304716) then some (AV.val (Value.bool false),[]) else bif bif false then true else decide (p>6908435304716) then some (AV.val (Value.bool false),[]) else bif decide (m < -6908435304716) then some (AV.val (Value.bool false),[]) else bif bif false then true else decide (m>6908435304716) then some (AV.val (Value.bool false),[]) else bif decide (e<0) then some (AV.val (Value.bool false),[]) else bif bif false then true else decide (e>109951162777) then some (AV.val (Value.bool false),[]) else bif bif false then true else decide (i<0) then some (AV.val (Value.bool false),[]) else bif bif false then true else decide (i>3454217652358) then some (AV.val (Value.bool false),[]) else bif bif false then true else !rt (t,()) then some (AV.val (Value.bool false),[]) else bif decide ((mu false (a,IntKind.i64.wrap (1099511627776-e),())).fst≥7232738120604) then bif bif true then decide ((mu (mu false (a,IntKind.i64.wrap (1099511627776-e),())).snd (a,IntKind.i64.wrap (1099511627776+e),())).fst≤9211859050600) else false then some (AV.val (Value.bool (bif true then !(mu (mu false (a,IntKind.i64.wrap (1099511627776-e),())).snd (a,IntKind.i64.wrap (1099511627776+e),())).snd else false)),[]) else some (AV.val (Value.bool false),[]) else some (AV.val (Value.bool false),[])):=by kernel_rfl
theorem r233(a:Int):fnSum Tryz.prog {gam:=[]} [] 20 233 [.val (.int .i64 a)] []=(bif decide (a≥-6908435304716) then some (AV.val (Value.bool (bif true then decide (a≤6908435304716) else false)),[]) else some (AV.val (Value.bool false),[])):=by kernel_rfl
theorem r181(mu:Bool→Int×Int×Unit→Int×Bool)(rt inn:Int×Unit→Bool)(a e i n p m t:Int):fnSum Tryz.prog {gam:=[(94,S0 rt),(233,S0 inn),(80,S 59 mu)]} [] 20 181 [.val (.agg #[.int .i64 a,.int .i64 e,.int .i64 i,.int .i64 n,.int .i64 p,.int .i64 m,.int .i64 t])] []=(bif decide (e<0) then some (AV.val (Value.bool false),[]) else bif bif false then true else decide (e>109951162777) then some (AV.val (Value.bool false),[]) else bif bif false then true else decide (i<0) then some (AV.val (Value.bool false),[]) else bif bif false then true else decide (i>3454217652358) then some (AV.val (Value.bool false),[]) else bif bif false then true else !inn (n,()) then some (AV.val (Value.bool false),[]) else bif bif false then true else !inn (p,()) then some (AV.val (Value.bool false),[]) else bif bif false then true else !inn (m,()) then some (AV.val (Value.bool false),[]) else bif bif false then true else !rt (t,()) then some (AV.val (Value.bool false),[]) else bif !(mu (mu false (a,IntKind.i64.wrap (1099511627776-e),())).snd (a,IntKind.i64.wrap (1099511627776+e),())).snd then bif bif true then decide ((mu false (a,IntKind.i64.wrap (1099511627776-e),())).fst≥7232738120604) else false then some (AV.val (Value.bool (bif true then decide ((mu (mu false (a,IntKind.i64.wrap (1099511627776-e),())).snd (a,IntKind.i64.wrap (1099511627776+e),())).fst≤9211859050600) else false)),[]) else some (AV.val (Value.bool false),[]) else some (AV.val (Value.bool false),[])):=by kernel_rfl
def inA(a:Int):Bool:=decide (-6908435304716≤a)&&decide (a≤6908435304716)
def N2x(mu:Bool→Int×Int×Unit→Int×Bool)(rt:Int×Unit→Bool)(o:Orb):Bool :=
 inA o.node&&(inA o.peri&&(inA o.m&&(decide (0≤o.e)&&(decide (o.e≤109951162777)&&(decide (0≤o.i)&&(decide (o.i≤3454217652358)&&(rt (o.tk,()) &&
  (decide (7232738120604≤(mu false (o.a,w64 (1099511627776-o.e),())).1)&&(decide ((mu (mu false (o.a,w64 (1099511627776-o.e),())).2 (o.a,w64 (1099511627776+o.e),())).1≤9211859050600) &&
   !(mu (mu false (o.a,w64 (1099511627776-o.e),())).2 (o.a,w64 (1099511627776+o.e),())).2)))))))))
theorem P3p{c r:Bool}:(bif c then some (AV.val (Value.bool false),([]:List Con)) else some (AV.val (Value.bool r),[]))=some (AV.val (Value.bool (!c&&r)),[]):=by cases c<;>rfl
theorem Y2n{c r:Bool}:(bif c then some (AV.val (Value.bool r),([]:List Con)) else some (AV.val (Value.bool false),[]))=some (AV.val (Value.bool (c&&r)),[]):=by cases c<;>rfl
theorem D4x{x y:Int}:(!decide (x<y))=decide (y≤x):=by rw[← decide_not];simp
theorem Y2x(mu:Bool→Int×Int×Unit→Int×Bool)(rt:Int×Unit→Bool)(o:Orb):fnSum Tryz.prog {gam:=[(87,S0 rt),(64,S 57 mu)]} [] 20 212 [.val (Cod.enc o)] []=some (.val (.bool (N2x mu rt o)),[]):=by
 refine (r212 mu rt o.a o.e o.i o.node o.peri o.m o.tk).trans ?_
 simp only[cond_false,cond_true,P3p,Y2n,GT.gt,GE.ge,D4x,Bool.not_not]
 unfold N2x inA
 simp only[Bool.and_assoc]
theorem Y2z(a:Int):fnSum Tryz.prog {gam:=[]} [] 20 233 [.val (.int .i64 a)] []=some (.val (.bool (inA a)),[]):=by
 rw[r233]
 simp only[cond_true,Y2n,GE.ge]
 rfl
theorem Y2w(mu:Bool→Int×Int×Unit→Int×Bool)(rt:Int×Unit→Bool)(o:Orb):fnSum Tryz.prog {gam:=[(94,S0 rt),(233,S0 fun (p:Int×Unit)=>inA p.1),(80,S 59 mu)]} [] 20 181 [.val (Cod.enc o)] []=some (.val (.bool (N2x mu rt o)),[]):=by
 refine (r181 mu rt (fun p=>inA p.1) o.a o.e o.i o.node o.peri o.m o.tk).trans ?_
 simp only[cond_false,cond_true,P3p,Y2n,GT.gt,GE.ge,D4x,Bool.not_not]
 unfold N2x
 congr 4
 ac_rfl
def V0e(o:Orb):Bool:=N2x (op2 fmul) (fun p=>A0z p.1) o
theorem N2e:A0h Tryz.prog 212 (S0 fun (p:Orb×Unit)=>V0e p.1):=H0n (E:={gam:=[(87,S0 fun (p:Int×Unit)=>A0z p.1),(64,S 57 (op2 fmul))]}) (.cons ok40 (.cons N2a .nil)) 20 fun a=>Y2x _ _ a.1
theorem okIn:A0h Tryz.prog 233 (S0 fun (p:Int×Unit)=>inA p.1):=H0n (E:={gam:=[]}) GamOk.nil 20 fun a=>Y2z a.1
theorem X2y:A0h Tryz.prog 181 (S0 fun (p:Orb×Unit)=>V0e p.1):=H0n (E:={gam:=[(94,S0 fun (p:Int×Unit)=>A0z p.1),(233,S0 fun (p:Int×Unit)=>inA p.1),(80,S 59 (op2 fmul))]}) (.cons ok41 (.cons okIn (.cons X2g .nil))) 20 fun a=>Y2w _ _ a.1
def V4.zero:V4:=⟨0,0,0,0⟩
def V4.v(q:V4):V3:=⟨q.w,q.x,q.y⟩
def V4.s(q:V4):Int:=q.z
def mk4(a:V3)(s:Int):V4:=⟨a.x,a.y,a.z,s⟩
def G2w(o:Ops)(v:VOps):Gam:=gamN o++gamV v
theorem J1x:GamOk Tryz.prog (G2w opsF E0b):=GamOk.append A0u J1y
def K5e(o:Ops)(v:VOps)(p q:V4)(r:V3)(f:Bool):V4×Bool :=
 let st:=o.mul f p.s q.s
 let d:=v.dot st.2 (p.v,q.v,())
 let w:=o.sub d.2 st.1 d.1
 (mk4 r w.1,w.2)
def V1q(o:Ops)(v:VOps)(p q:V4)(b:Bool):V4×Bool :=
 let x:=v.scale b (p.v,q.s,())
 let y:=v.scale x.2 (q.v,p.s,())
 let s:=v.add y.2 (x.1,y.1,())
 let z:=v.cross s.2 (q.v,p.v,())
 let r:=v.add z.2 (s.1,z.1,())
 K5e o v p q r.1 r.2
def G3b(r:V4×Bool):V4×Bool:=(bif r.2 then V4.zero else r.1,r.2)
theorem H5d(o:Ops)(v:VOps)(b:Bool)(p q:V4):fnSum Tryz.prog {gam:=G2w o v} [] 20 135 [.ptr 0 0,.val (Cod.enc p),.val (Cod.enc q)] (row 57 b) =
  some (.val (Cod.enc (G3b (V1q o v p q b)).1),row 57 (G3b (V1q o v p q b)).2):=by
 refine Eq.trans (?_:_=bif (V1q o v p q b).2 then some (.val (Cod.enc V4.zero),row 57 (V1q o v p q b).2) else some (.val (Cod.enc (V1q o v p q b).1),row 57 (V1q o v p q b).2)) pull
 kernel_rfl
def Q1m(v:VOps)(b:Bool)(p:V4×V3×Unit):V3×Bool :=
 let c:=v.cross b (p.1.v,p.2.1,())
 let t:=v.scale c.2 (c.1,2199023255552,())
 let u:=v.scale t.2 (t.1,p.1.s,())
 let x:=v.sub u.2 (p.2.1,u.1,())
 let y:=v.cross x.2 (p.1.v,t.1,())
 v.add y.2 (x.1,y.1,())
theorem Q4z(o:Ops)(v:VOps)(b:Bool)(q:V4)(u:V3):fnSum Tryz.prog {gam:=G2w o v} [] 20 56 [.ptr 0 0,.val (Cod.enc q),.val (Cod.enc u)] (row 57 b) =
  some (.val (Cod.enc (Q1m v b (q,u,())).1),row 57 (Q1m v b (q,u,())).2):=by kernel_rfl
def qmul(b:Bool)(p:V4×V4×Unit):V4×Bool:=G3b (V1q opsF E0b p.1 p.2.1 b)
theorem ok92:A0h Tryz.prog 135 (S 57 qmul):=S_ok J1x 20 fun b a=>H5d opsF E0b b a.1 a.2.1
theorem ok87:A0h Tryz.prog 56 (S 57 (Q1m E0b)):=S_ok J1x 20 fun b a=>Q4z opsF E0b b a.1 a.2.1
def nb(x:Int):Int:=bif decide (x≤4611686018427387904) then (bif decide (x≥-4611686018427387904) then IntKind.i64.wrap (0-x) else x) else x
def M4h(p:V4×Unit):V4:=⟨nb p.1.w,nb p.1.x,nb p.1.y,p.1.z⟩
def nbP{α:Type}(x:Int)(K:Int→α):α:=bif decide (x≤4611686018427387904) then (bif decide (x≥-4611686018427387904) then K (IntKind.i64.wrap (0-x)) else K x) else K x
theorem L2j{α:Type}(x:Int)(K:Int→α):nbP x K=K (nb x):=by
 unfold nbP nb
 cases decide (x≤4611686018427387904)<;>cases decide (x≥-4611686018427387904)<;>rfl
theorem V3v(q:V4):fnSum Tryz.prog {gam:=[]} [] 20 136 [.val (Cod.enc q)] [] =
  nbP q.w fun w=>nbP q.x fun x=>nbP q.y fun y=>some (.val (Cod.enc (V4.mk w x y q.z)),[]):=by kernel_rfl
theorem ok91:A0h Tryz.prog 136 (S0 M4h):=H0n (E:={gam:=[]}) GamOk.nil 20 fun a=>by
 refine (V3v a.1).trans ?_
 rw[L2j,L2j,L2j];rfl
theorem U0q{a b c n:Int}(h:E0g false a b c=(n,false)):num a=true∧num b=true∧num c=true∧n=isq (a*a+b*b+c*c)∧0≤n∧n≤4611686018427387904:=by
 unfold E0g at h
 cases hb:(false||!C0r [a,b,c]) with
 | true=>rw[hb]at h;simp at h
 | false =>
  obtain ⟨_,ha,hb',hc⟩:=L3z hb
  rw[hb,cond_false]at h
  obtain ⟨a5,a6⟩:=N0y ha
  obtain ⟨b5,b6⟩:=N0y hb'
  obtain ⟨c5,c6⟩:=N0y hc
  have e126:(2:Int)^126=85070591730234615865843651857942052864:=by decide
  obtain ⟨i0,i1,_,_⟩:=L0k (W:=a*a+b*b+c*c) (by omega) (by omega)
  by_cases hq:isq (a*a+b*b+c*c)>4611686018427387904
  ·rw[decide_eq_true hq]at h;simp at h
  ·rw[decide_eq_false hq,cond_false,Prod.mk.injEq]at h
   exact ⟨ha,hb',hc,h.1.symm,by omega,by omega⟩
theorem J1n{a b c n:Int}(h:E0g false a b c=(n,false)):n*n≤a*a+b*b+c*c∧a*a+b*b+c*c<(n+1)*(n+1)∧0≤a*a+b*b+c*c:=by
 obtain ⟨ha,hb,hc,rfl,h0,h1⟩:=U0q h
 obtain ⟨a5,a6⟩:=N0y ha
 obtain ⟨b5,b6⟩:=N0y hb
 obtain ⟨c5,c6⟩:=N0y hc
 have e126:(2:Int)^126=85070591730234615865843651857942052864:=by decide
 obtain ⟨i0,i1,i2,i3⟩:=L0k (W:=a*a+b*b+c*c) (by omega) (by omega)
 exact ⟨i2,i3,by omega⟩
theorem T0k{a n:Int}(h0:0≤n)(h:a*a<(n+1)*(n+1)):-n≤a∧a≤n:=by
 constructor
 ·have:-a<n+1:=Q0q (by omega) (by rw[Int.neg_mul_neg];exact h)
  omega
 ·have:a<n+1:=Q0q (by omega) h
  omega
theorem E0q(a:Int):0≤a*a:=by
 rcases Int.le_total 0 a with h | h
 ·exact Int.mul_nonneg h h
 ·have :=Int.mul_nonneg (a:=-a) (b:=-a) (by omega) (by omega)
  rwa [Int.neg_mul_neg]at this
theorem T0h{a b c n:Int}(h:E0g false a b c=(n,false)):(-n≤a∧a≤n)∧(-n≤b∧b≤n)∧(-n≤c∧c≤n):=by
 obtain ⟨_,_,_,_,h0,_⟩:=U0q h
 obtain ⟨_,h2,_⟩:=J1n h
 have p:=E0q a
 have q:=E0q b
 have r:=E0q c
 exact ⟨T0k h0 (by omega),T0k h0 (by omega),T0k h0 (by omega)⟩
theorem H2n{a n:Int}(h:-n≤a∧a≤n):iabs a≤n:=by
 unfold iabs
 by_cases h1:a<0
 ·simp only[h1,decide_true,cond_true];omega
 ·simp only[h1,decide_false,cond_false];omega
theorem A1m(a:Int):0≤iabs a:=by
 unfold iabs
 by_cases h1:a<0
 ·simp only[h1,decide_true,cond_true];omega
 ·simp only[h1,decide_false,cond_false];omega
theorem E0u{a:Int}(h:0≤a):iabs a=a:=by
 unfold iabs
 have h1:¬ a<0:=by omega
 simp only[h1,decide_false,cond_false]
def R0r(a b c:Int):Int:=bif neg3 a b c then 0-rnd (iabs a*iabs b) (iabs c) else rnd (iabs a*iabs b) (iabs c)
theorem Z2b{N z:Int}(hz:0<z):2*N-z≤2*z*rnd N z∧2*z*rnd N z≤2*N+z:=by
 have r0:=Int.emod_nonneg N (b:=z) (by omega)
 have r1:=Int.emod_lt_of_pos N hz
 have e:N=z*(N / z)+N % z:=(Int.mul_ediv_add_emod N z).symm
 unfold rnd
 by_cases h:N % z≥z-N % z
 ·simp only[h,decide_true,cond_true]
  have:2*z*(N / z+1)=2*(z*(N / z))+2*z:=by rw[Int.mul_add,Int.mul_one,Int.mul_assoc]
  omega
 ·simp only[h,decide_false,cond_false]
  have:2*z*(N / z)=2*(z*(N / z)):=by rw[Int.mul_assoc]
  omega
theorem V3j{N z:Int}(hN:0≤N)(hz:0<z):0≤rnd N z:=by
 have :=Int.ediv_nonneg hN (b:=z) (by omega)
 unfold rnd
 cases decide (N % z≥z-N % z)<;>simp only[cond_true,cond_false]<;>omega
theorem N4n{N z m:Int}(hz:0<z)(h:N≤z*m):rnd N z≤m:=by
 have r0:=Int.emod_nonneg N (b:=z) (by omega)
 have r1:=Int.emod_lt_of_pos N hz
 have e:N=z*(N / z)+N % z:=(Int.mul_ediv_add_emod N z).symm
 have hq:N / z≤m:=by
  have:z*(N / z)≤z*m:=by omega
  exact Int.le_of_mul_le_mul_left this hz
 unfold rnd
 by_cases h1:N % z≥z-N % z
 ·simp only[h1,decide_true,cond_true]
  rcases Int.lt_or_le (N / z) m with h2 | h2
  ·omega
  ·have:N / z=m:=by omega
   rw[this]at e
   omega
 ·simp only[h1,decide_false,cond_false]
  exact hq
theorem N1q{a b c:Int}(hc:iabs c≠0)(h:iabs a*iabs b≤iabs c*4611686018427387904):H0b false a b c=(R0r a b c,false):=by
 have c0:=A1m c
 have hz:0<iabs c:=by omega
 have hq:iabs a*iabs b / iabs c≤4611686018427387904:=by
  have :=Int.ediv_le_ediv hz h
  rwa [Int.mul_ediv_cancel_left _ (by omega)]at this
 have hr:=N4n hz h
 unfold H0b R0r
 have e1:(iabs c==0)=false:=by simp;exact hc
 have e2:decide (iabs a*iabs b / iabs c>4611686018427387904)=false:=by simp;omega
 have e3:decide (rnd (iabs a*iabs b) (iabs c)>4611686018427387904)=false:=by simp;omega
 rw[e1,e2,e3]
 rfl
theorem Z1x{x n:Int}(hx:num x=true)(hn:num n=true)(h0:0<n)(h:-n≤x∧x≤n):fdiv false x n=(R0r x 1099511627776 n,false):=by
 have e:(false||!C0r [x,n])=false:=by simp[C0r,hx,hn]
 unfold fdiv
 rw[e,cond_false]
 have e1:iabs n=n:=E0u (by omega)
 have e2:iabs 1099511627776=1099511627776:=rfl
 refine N1q (by rw[e1];omega) ?_
 rw[e1,e2]
 have :=H2n h
 omega
end Go.Ab
