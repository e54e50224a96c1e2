/- A part of the proof of 'WholeModes': lemmas, no statement of their own; no condition. -/
import Derived.Test.YtoocjipllmkjcaaGreatFjB
import Derived.Test.YtoocjipllmkjcaaGreatFjC
namespace Go.Ab
open Go Go.Proofs
theorem allVals_map:∀{l:List AV} {vs:List Value},allVals l=some vs→l=vs.map .val
 | [],vs,h=>by simp only[allVals,Option.some.injEq]at h;subst h;rfl
 | a :: l,vs,h=>by
  cases a with
  | val v =>
   simp only[allVals]at h
   split at h
   ·rename_i ws hw
    cases h
    rw[allVals_map hw]
    rfl
   ·cases h
  | _=>simp[allVals]at h
def rdCod(α:Type)[Cod α](l:List AV):Option α:=match allVals l with
 | some vs=>Cod.dec (.agg ⟨vs⟩)
 | none=>none
theorem rdCod_law{α:Type}[Cod α]{l:List AV}{x:α}(h:rdCod α l=some x):∃vs,l=vs.map .val∧Cod.enc x=.agg ⟨vs⟩:=by
 unfold rdCod at h
 split at h
 ·rename_i vs hv
  exact ⟨vs,allVals_map hv,(Cod.law _ _ h).symm⟩
 ·cases h
def X13.av(x:X13):List AV:=(cellsL x.rows).map .val
theorem rdX13{l:List AV}{x:X13}(h:rdCod X13 l=some x):l=x.av:=by
 obtain ⟨vs,rfl,h2⟩:=rdCod_law h
 have:Value.agg ⟨cellsL x.rows⟩=.agg ⟨vs⟩:=h2
 injection this with h3
 injection h3 with h4
 unfold X13.av
 rw[h4]
def X13.at(x:X13):Mx
 | 0=>x.r0.at
 | 1=>x.r1.at
 | 2=>x.r2.at
 | 3=>x.r3.at
 | 4=>x.r4.at
 | 5=>x.r5.at
 | 6=>x.r6.at
 | 7=>x.r7.at
 | 8=>x.r8.at
 | 9=>x.r9.at
 | 10=>x.r10.at
 | 11=>x.r11.at
 | 12=>x.r12.at
 | _=>fun _=>0
theorem at_av(x:X13):cells13 x.at=x.av:=by kernel_rfl
theorem of_av(X:Mx):cells13 X=(x13of X).av:=by kernel_rfl
def M6.av(m:M6):List AV:=(m6c m).map .val
theorem rdM6{l:List AV}{m:M6}(h:rdCod M6 l=some m):l=m.av:=by
 obtain ⟨vs,rfl,h2⟩:=rdCod_law h
 have:Value.agg ⟨m6c m⟩=.agg ⟨vs⟩:=h2
 injection this with h3
 injection h3 with h4
 unfold M6.av
 rw[h4]
theorem at_av6(m:M6):cells36 m.at=m.av:=by kernel_rfl
theorem of_av6(X:Mx):cells36 X=(M6.of X).av:=by kernel_rfl
structure XR where
 x:X13
 m:R6
abbrev CFun:=Bool→X13→XR×Bool
abbrev PFun:=Bool→X13→X13→M6×Bool
abbrev OFun:=Bool→M6→Int→Int→M6×Bool
def centerV(o:Ops):CFun:=fun b x=>(⟨x13of (centerO o b x.at).1.1,R6.of (centerO o b x.at).1.2⟩,(centerO o b x.at).2)
def prodV(o:Ops):PFun:=fun b x y=>(M6.of (prodO o b x.at y.at).1,(prodO o b x.at y.at).2)
def ctrS(g:CFun):Summary:=fun args cs=>match args,cs with
 | [.ptr 0 0,.ptr 1 0],[.row e l,.row e2 [.val (.bool b)]]=>match Nat.beq e 112&&Nat.beq e2 57,rdCod X13 l with
  | true,some x=>.ret (.val (Cod.enc (g b x).1.m)) [.row 112 (g b x).1.x.av,.row 57 [.val (.bool (g b x).2)]]
  | _,_=>.no
 | _,_=>.no
theorem ren13'(x:X13)(b:Bool):renCs (upTo 2) [.row 112 x.av,.row 57 [.val (.bool b)]]=some [.row 112 x.av,.row 57 [.val (.bool b)]]:=by kernel_rfl
theorem okCtr{o:Ops}(hG:GamOk Tryz.prog (gamN o)):SumOk Tryz.prog 57 (ctrS (centerV o)):=by
 intro args cs r cs' h
 unfold ctrS at h
 split at h
 ·split at h
  ·rename_i e l e2 b _ _ x he hv
   simp only[STr.sel,Option.some.injEq,Prod.mk.injEq]at h
   obtain ⟨rfl,rfl⟩:=h
   simp only[Bool.and_eq_true]at he
   rw[Nat.eq_of_beq_eq_true he.1,Nat.eq_of_beq_eq_true he.2,rdX13 hv]
   have hrun:=center_runs (o:=o) hG x.at b
   rw[at_av]at hrun
   refine sum_runs f57_is (c:=ctC) (by unfold ctC;rw[ctC_is];rfl) ctN (by simp) (by simp) rfl rfl (ren13' x b) (.inr rfl) hrun (cqR ..) rfl rfl (fun b' c hb=>?_) rfl (ren13' ..)
   match b',hb with
   | 0,hb=>cases hb;exact congrArg (fun l=>some (Con.row 112 l)) (of_av _)
   | 1,hb=>cases hb;rfl
   | n+2,hb=>simp at hb
  ·simp[STr.sel]at h
 ·simp[STr.sel]at h
def prdS(g:PFun):Summary:=fun args cs=>match args,cs with
 | [.ptr 0 0,.ptr 1 0,.ptr 1 0],[.row e [.val (.bool b)],.row e1 l]=>match Nat.beq e 57&&Nat.beq e1 112,rdCod X13 l with
  | true,some x=>.ret (.val (Cod.enc (g b x x).1)) [.row 57 [.val (.bool (g b x x).2)],.row 112 x.av]
  | _,_=>.no
 | [.ptr 0 0,.ptr 1 0,.ptr 2 0],[.row e [.val (.bool b)],.row e1 l,.row e2 k]=>match Nat.beq e 57&&(Nat.beq e1 112&&Nat.beq e2 112),rdCod X13 l,rdCod X13 k with
  | true,some x,some y=>.ret (.val (Cod.enc (g b x y).1)) [.row 57 [.val (.bool (g b x y).2)],.row 112 x.av,.row 112 y.av]
  | _,_,_=>.no
 | _,_=>.no
theorem ren_s(x:X13)(b:Bool):renCs (upTo 2) [.row 57 [.val (.bool b)],.row 112 x.av]=some [.row 57 [.val (.bool b)],.row 112 x.av]:=by kernel_rfl
theorem ren_d(x y:X13)(b:Bool):renCs (upTo 3) [.row 57 [.val (.bool b)],.row 112 x.av,.row 112 y.av]=some [.row 57 [.val (.bool b)],.row 112 x.av,.row 112 y.av]:=by kernel_rfl
theorem okPrd{o:Ops}(hG:GamOk Tryz.prog (gamN o)):SumOk Tryz.prog 58 (prdS (prodV o)):=by
 intro args cs r cs' h
 have hb:Tryz.f58.body=some prC:=by unfold prC;rw[prC_is];rfl
 unfold prdS at h
 split at h
 ·split at h
  ·rename_i e b e1 l _ _ x he hv
   simp only[STr.sel,Option.some.injEq,Prod.mk.injEq]at h
   obtain ⟨rfl,rfl⟩:=h
   simp only[Bool.and_eq_true]at he
   rw[Nat.eq_of_beq_eq_true he.1,Nat.eq_of_beq_eq_true he.2,rdX13 hv]
   have hrun:=ps_runs (o:=o) hG x.at b
   rw[at_av]at hrun
   refine sum_runs f58_is hb prN (by simp) (by simp) rfl rfl (ren_s x b) (.inr rfl) hrun (psr ..) rfl rfl (fun b' c hb=>?_) rfl (ren_s ..)
   match b',hb with
   | 0,hb=>cases hb;rfl
   | 1,hb=>cases hb;exact congrArg (fun l=>some (Con.row 112 l)) (at_av x)
   | n+2,hb=>simp at hb
  ·simp[STr.sel]at h
 ·split at h
  ·rename_i e b e1 l e2 k _ _ _ x y he hv hu
   simp only[STr.sel,Option.some.injEq,Prod.mk.injEq]at h
   obtain ⟨rfl,rfl⟩:=h
   simp only[Bool.and_eq_true]at he
   rw[Nat.eq_of_beq_eq_true he.1,Nat.eq_of_beq_eq_true he.2.1,Nat.eq_of_beq_eq_true he.2.2,rdX13 hv,rdX13 hu]
   have hrun:=pd_runs (o:=o) hG x.at y.at b
   rw[at_av,at_av]at hrun
   refine sum_runs f58_is hb prN (by simp) (by simp) rfl rfl (ren_d x y b) (.inr rfl) hrun (pdr ..) rfl rfl (fun b' c hb=>?_) rfl (ren_d ..)
   match b',hb with
   | 0,hb=>cases hb;rfl
   | 1,hb=>cases hb;exact congrArg (fun l=>some (Con.row 112 l)) (at_av x)
   | 2,hb=>cases hb;exact congrArg (fun l=>some (Con.row 112 l)) (at_av y)
   | n+3,hb=>simp at hb
  ·simp[STr.sel]at h
 ·simp[STr.sel]at h
def ontoO(o:Ops)(b:Bool)(m:Mx)(p q:Int):Mx×Bool :=
 let s0:=o.add b (m 0 0) p
 let s1:=o.add s0.2 (m 1 1) p
 let s2:=o.add s1.2 (m 2 2) p
 let s3:=o.add s2.2 (m 3 3) q
 let s4:=o.add s3.2 (m 4 4) q
 let s5:=o.add s4.2 (m 5 5) q
 (setM (setM (setM (setM (setM (setM m 0 0 s0.1) 1 1 s1.1) 2 2 s2.1) 3 3 s3.1) 4 4 s4.1) 5 5 s5.1,s5.2)
theorem onto59(o:Ops)(b:Bool)(m:Mx)(p q:Int):fnSum Tryz.prog {gam:=gamN o} [] 20 59 [.ptr 0 0,.ptr 1 0,.val (.int .i64 p),.val (.int .i64 q)] [.row 57 [.val (.bool b)],.row 40 (cells36 m)] =
  some (.val (.tuple #[]),[.row 57 [.val (.bool (ontoO o b m p q).2)],.row 40 (cells36 (ontoO o b m p q).1)]):=by kernel_rfl
def ontoV(o:Ops):OFun:=fun b m p q=>(M6.of (ontoO o b m.at p q).1,(ontoO o b m.at p q).2)
def ontS(g:OFun):Summary:=fun args cs=>match args,cs with
 | [.ptr 0 0,.ptr 1 0,.val (.int .i64 p),.val (.int .i64 q)],[.row e [.val (.bool b)],.row e1 l]=>match Nat.beq e 57&&Nat.beq e1 40,rdCod M6 l with
  | true,some m=>.ret (.val (.tuple #[])) [.row 57 [.val (.bool (g b m p q).2)],.row 40 (g b m p q).1.av]
  | _,_=>.no
 | _,_=>.no
theorem okOnt{o:Ops}(hG:GamOk Tryz.prog (gamN o)):SumOk Tryz.prog 59 (ontS (ontoV o)):=by
 refine sumOk_of (E:={gam:=gamN o}) hG fun args cs r cs' h=>?_
 unfold ontS at h
 split at h
 ·split at h
  ·rename_i p q e b e1 l _ _ m he hv
   simp only[STr.sel,Option.some.injEq,Prod.mk.injEq]at h
   obtain ⟨rfl,rfl⟩:=h
   simp only[Bool.and_eq_true]at he
   refine ⟨by simp,20,?_⟩
   rw[Nat.eq_of_beq_eq_true he.1,Nat.eq_of_beq_eq_true he.2,rdM6 hv,← at_av6]
   refine (onto59 o b m.at p q).trans ?_
   rw[of_av6]
   rfl
  ·simp[STr.sel]at h
 ·simp[STr.sel]at h
def halvesV(r:R6):Two V3 V3:=⟨⟨r.a,r.b,r.c⟩,⟨r.d,r.e,r.f⟩⟩
def joinV(a b:V3):R6:=⟨a.x,a.y,a.z,b.x,b.y,b.z⟩
theorem halves53(r:R6):fnSum Tryz.prog {gam:=[]} [] 20 53 [.val (Cod.enc r)] []=some (.val (Cod.enc (halvesV r)),[]):=by kernel_rfl
theorem join55(a b:V3):fnSum Tryz.prog {gam:=[]} [] 20 55 [.val (Cod.enc a),.val (Cod.enc b)] []=some (.val (Cod.enc (joinV a b)),[]):=by kernel_rfl
theorem okHalves:SumOk Tryz.prog 53 (S0 fun (p:R6×Unit)=>halvesV p.1):=S0_ok (E:={gam:=[]}) GamOk.nil 20 fun a=>halves53 a.1
theorem okJoin:SumOk Tryz.prog 55 (S0 fun (p:V3×V3×Unit)=>joinV p.1 p.2.1):=S0_ok (E:={gam:=[]}) GamOk.nil 20 fun a=>join55 a.1 a.2.1
abbrev QFun:=Bool→V4×V4×Unit→V4×Bool
abbrev RFun:=Bool→V3×Unit→V4×Bool
abbrev TFun:=Bool→V3×V4×Unit→V4×Bool
abbrev UFun:=Bool→V4×Unit→V4×Bool
def turnedO(mu:QFun)(fr:RFun)(b:Bool)(p:V3×V4×Unit):V4×Bool :=
 let r:=fr b (p.1,())
 mu r.2 (r.1,p.2.1,())
theorem turned54(mu:QFun)(fr:RFun)(b:Bool)(p:V3)(q:V4):fnSum Tryz.prog {gam:=[(135,S 57 mu),(142,S 57 fr)]} [] 20 54 [.ptr 0 0,.val (Cod.enc p),.val (Cod.enc q)] (row 57 b) =
  some (.val (Cod.enc (turnedO mu fr b (p,q,())).1),row 57 (turnedO mu fr b (p,q,())).2):=by kernel_rfl
def Gs.zero:Gs:=⟨V4.zero,V3.zero,M6.zero⟩
def settle0(va:Bool→V3×V3×Unit→V3×Bool)(un:UFun)(tu:TFun)(b:Bool)(q:V4)(bias:V3)(by_:R6)(p:M6):Gs×Bool :=
 let t:=tu b ((halvesV by_).a,q,())
 let u:=un t.2 (t.1,())
 let c:=va u.2 (bias,(halvesV by_).b,())
 (⟨u.1,c.1,p⟩,c.2)
def settleO(va:Bool→V3×V3×Unit→V3×Bool)(un:UFun)(tu:TFun)(b:Bool)(p:V4×V3×R6×M6×Unit):Two Gs Bool×Bool :=
 let r:=settle0 va un tu b p.1 p.2.1 p.2.2.1 p.2.2.2.1
 (bif r.2 then ⟨Gs.zero,false⟩ else ⟨r.1,true⟩,r.2)
theorem settle66(va:Bool→V3×V3×Unit→V3×Bool)(un:UFun)(tu:TFun)(b:Bool)(q:V4)(bias:V3)(by_:R6)(p:M6) :
  fnSum Tryz.prog {gam:=[(146,S 57 va),(133,S 57 un),(54,S 57 tu),(53,S0 fun (p:R6×Unit)=>halvesV p.1)]} [] 20 66 [.ptr 0 0,.val (Cod.enc q),.val (Cod.enc bias),.val (Cod.enc by_),.val (Cod.enc p)] (row 57 b) =
   bif (settle0 va un tu b q bias by_ p).2 then some (.val (Cod.enc (Two.mk Gs.zero false)),row 57 (settle0 va un tu b q bias by_ p).2) else some (.val (Cod.enc (Two.mk (settle0 va un tu b q bias by_ p).1 true)),row 57 (settle0 va un tu b q bias by_ p).2):=by kernel_rfl
end Go.Ab
