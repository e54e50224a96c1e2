/- A part of the proofs: lemmas, no statement of their own; no condition. -/
import Derived.Test.YtoocjipllmkjcaaGreatGMtC
import Derived.Test.YtoocjipllmkjcaaGreatMtD
import Derived.Test.YtoocjipllmkjcaaGreatFjE
import Derived.Test.YtoocjipllmkjcaaGreatGFjK
import Derived.Test.YtoocjipllmkjcaaGreatMtI
import Derived.Test.YtoocjipllmkjcaaGreatGTrB
import Derived.Test.YtoocjipllmkjcaaGreatGMoL
import Derived.Test.YtoocjipllmkjcaaGreatGAbM
import Derived.Test.YtoocjipllmkjcaaGreatGFrK
set_option linter.unusedSimpArgs false
namespace Go.Ab
open Go Go.Proofs
theorem W1c(o:Ops)(b:Bool)(m:M6)(y:R6)(n:Int):fnSum Tryz.prog {gam:=gamN o} mute 20 62 [.ptr 0 0,.val (Cod.enc m),.val (Cod.enc y),.val (.int .i64 n)] (row 57 b)=badT 57 (Cod.enc R6.zero) b n:=by kernel_rfl
theorem ok76:A0h Tryz.prog 62 (S 57 (V0a opsF)):=by
 refine C2x fun (a:M6×R6×Int×Unit)=>?_
 cases hn:okN a.2.2.1 with
 | false =>
  refine ⟨fun p=>!okN p.2.2.1,by simp only[hn,Bool.not_false],?_⟩
  refine C2z (E:={gam:=gamN opsF}) A0u (hB:=mute) U1g 20 fun b p hp=>?_
  obtain ⟨m,y,n,_⟩:=p
  have hp':okN n=false:=by simpa using hp
  refine ((W1c opsF b m y n).trans (R1x hp')).trans ?_
  show _=some (AV.val (Cod.enc (byN R6.zero n b _).1),row 57 (byN R6.zero n b _).2)
  rw[D2v _ _ _ hp']
 | true =>
  rcases B1j hn with h | h | h | h | h | h
  ·refine ⟨fun p=>decide (p.2.2.1=1),by simp only[h,decide_true],?_⟩
   refine K0h (E:={gam:=gamN opsF}) A0u 20 fun b p hp=>?_
   obtain ⟨m,y,n,_⟩:=p
   have hp':n=1:=by simpa using hp
   subst hp'
   refine (Q2u opsF b m y).trans ?_
   unfold P0c
   rw[E0n]
   exact E0x 57 R6.zero b (R0e (Y0m opsF b m y 1))
  ·refine ⟨fun p=>decide (p.2.2.1=2),by simp only[h,decide_true],?_⟩
   refine K0h (E:={gam:=gamN opsF}) A0u 20 fun b p hp=>?_
   obtain ⟨m,y,n,_⟩:=p
   have hp':n=2:=by simpa using hp
   subst hp'
   refine (Q2v opsF b m y).trans ?_
   unfold P0c
   rw[E0n]
   exact E0x 57 R6.zero b (R0e (Y0m opsF b m y 2))
  ·refine ⟨fun p=>decide (p.2.2.1=3),by simp only[h,decide_true],?_⟩
   refine K0h (E:={gam:=gamN opsF}) A0u 20 fun b p hp=>?_
   obtain ⟨m,y,n,_⟩:=p
   have hp':n=3:=by simpa using hp
   subst hp'
   refine (Q2w opsF b m y).trans ?_
   unfold P0c
   rw[E0n]
   exact E0x 57 R6.zero b (R0e (Y0m opsF b m y 3))
  ·refine ⟨fun p=>decide (p.2.2.1=4),by simp only[h,decide_true],?_⟩
   refine K0h (E:={gam:=gamN opsF}) A0u 20 fun b p hp=>?_
   obtain ⟨m,y,n,_⟩:=p
   have hp':n=4:=by simpa using hp
   subst hp'
   refine (Q2x opsF b m y).trans ?_
   unfold P0c
   rw[E0n]
   exact E0x 57 R6.zero b (R0e (Y0m opsF b m y 4))
  ·refine ⟨fun p=>decide (p.2.2.1=5),by simp only[h,decide_true],?_⟩
   refine K0h (E:={gam:=gamN opsF}) A0u 20 fun b p hp=>?_
   obtain ⟨m,y,n,_⟩:=p
   have hp':n=5:=by simpa using hp
   subst hp'
   refine (Q2y opsF b m y).trans ?_
   unfold P0c
   rw[E0n]
   exact E0x 57 R6.zero b (R0e (Y0m opsF b m y 5))
  ·refine ⟨fun p=>decide (p.2.2.1=6),by simp only[h,decide_true],?_⟩
   refine K0h (E:={gam:=gamN opsF}) A0u 20 fun b p hp=>?_
   obtain ⟨m,y,n,_⟩:=p
   have hp':n=6:=by simpa using hp
   subst hp'
   refine (Q2z opsF b m y).trans ?_
   unfold P0c
   rw[E0n]
   exact E0x 57 R6.zero b (R0e (Y0m opsF b m y 6))
def frF:RFun:=J1q opsF E0b (E0p opsF)
def tuF:TFun:=W1q qmul frF
def ptF:Bool→Gs×Unit→X13×Bool:=fun b p=>B1x opsF (G0t opsF) H2r b p.1
def stF:Bool→V4×V3×R6×M6×Unit→Two Gs Bool×Bool:=L1q (vop fadd) (E0p opsF) tuF
def FP:FOps:={o:=opsF,vs:=vop fsub,tu:=tuF,un:=E0p opsF,mu:=qmul,tr:=T2b opsF,bk:=M4h,pt:=ptF,cen:=T0c opsF,pro:=T0w opsF,ont:=X0b opsF,st:=stF}
def GP:GOps:={o:=opsF,vu:=N0q opsF,tu:=tuF,qt:=Q1m E0b,pt:=ptF,cen:=T0c opsF,pro:=T0w opsF,ont:=X0b opsF,rt:=G0t opsF,so:=V0a opsF,ap:=U0z opsF,st:=stF}
theorem K1p:A0h Tryz.prog 54 (S 57 tuF):=S_ok (E:={gam:=[(135,S 57 qmul),(142,S 57 frF)]}) (.cons ok92 (.cons ok80 .nil)) 20 fun b a=>A3t qmul frF b a.1 a.2.1
theorem Y1m:A0h Tryz.prog 66 (S 57 stF):=S_ok (E:={gam:=[(146,S 57 (vop fadd)),(133,S 57 (E0p opsF)),(54,S 57 tuF),(53,S0 fun (p:R6×Unit)=>D0m p.1)]}) (.cons ok50 (.cons ok72 (.cons K1p (.cons K1n .nil)))) 20 fun b a=>by
 refine (Z2t (vop fadd) (E0p opsF) tuF b a.1 a.2.1 a.2.2.1 a.2.2.2.1).trans ?_
 unfold stF L1q
 dsimp only
 generalize T0y (vop fadd) (E0p opsF) tuF b a.1 a.2.1 a.2.2.1 a.2.2.2.1=r
 obtain ⟨r,f⟩:=r
 cases f<;>rfl
theorem B5w:GamOk Tryz.prog (eM FP).gam:=.cons ok52 (.cons K1p (.cons ok72 (.cons ok92 (.cons ok82 (.cons ok91 (.cons K4h (.cons (K4v A0u) (.cons (L4j A0u) (.cons (L4e A0u) (.cons Y1m (.cons K1n (.cons C3m (.cons M2z (.cons K4j .nil))))))))))))))
theorem B5x:GamOk Tryz.prog (eE GP).gam:=.cons ok68 (.cons K1p (.cons ok87 (.cons K4h (.cons (K4v A0u) (.cons (L4j A0u) (.cons (L4e A0u) (.cons ok64 (.cons ok76 (.cons ok85 (.cons Y1m (.cons K1n (.cons C3m (.cons N2b (.cons X2j (.cons N2a (.cons M2z .nil))))))))))))))))
theorem N3j:A0h Tryz.prog 21 (S 57 (K0r GP)):=L4c B5x
theorem N3m:A0h Tryz.prog 49 (S 57 (W0z FP)):=L4d B5w
def orJ(a b:Int):Int:=IntKind.i64.wrap ((BitVec.ofInt IntKind.i64.bits a ||| BitVec.ofInt IntKind.i64.bits b).toNat:Int)
def blk1(s:Stp)(c:Crf)(r:Rds):Option (AV×List Con):=some (X0u,R0w s c r)
theorem M4d(nx:Pl×Sn×Unit→Pl)(at_:Bool→P2×P2×Unit→V4×Bool)(st:V4×Unit→Gs)(s:Stp)(c:Crf)(r:Rds):fnSum Tryz.prog {gam:=[(173,S0 nx),(174,S 57 at_),(48,S0 st)]} [] 20 92 [.ptr 0 0] (R0w s c r) =
  bif (nx (c.plan,s.seen,())).mode==2 then bif c.plan.mode != 2 then bif (at_ false (s.sky,s.body,())).2 then blk1 s {c with plan:=⟨1,0,0,0,0,orJ (nx (c.plan,s.seen,())).faults 4⟩,guess:=Gs.zero} r
   else bif (nx (c.plan,s.seen,())).mode != 2 then blk1 s {c with plan:=nx (c.plan,s.seen,()),guess:=Gs.zero} r else blk1 s {c with plan:=nx (c.plan,s.seen,()),guess:=st ((at_ false (s.sky,s.body,())).1,())} r
   else bif (nx (c.plan,s.seen,())).mode != 2 then blk1 s {c with plan:=nx (c.plan,s.seen,()),guess:=Gs.zero} r else blk1 s {c with plan:=nx (c.plan,s.seen,())} r
  else bif (nx (c.plan,s.seen,())).mode != 2 then blk1 s {c with plan:=nx (c.plan,s.seen,()),guess:=Gs.zero} r else blk1 s {c with plan:=nx (c.plan,s.seen,())} r:=by kernel_rfl
def E2z(sp:Bool→Gs×Unit→Int×Bool)(s:Stp)(c:Crf)(r:Rds)(g:Gs)(pass fl:Bool):Option (AV×List Con) :=
 bif decide ((sp fl (g,())).1>274877906944) then blk1 {s with seen:={s.seen with pass:=pass,bad:=true}} {c with guess:=g} r
 else blk1 {s with seen:={s.seen with pass:=pass,bad:=(sp fl (g,())).2}} {c with guess:=g} r
def G2a(me:Bool→Gs×P2×P2×Unit→GCB×Bool)(sp:Bool→Gs×Unit→Int×Bool)(s:Stp)(c:Crf)(r:Rds)(m:Gs×Bool):Option (AV×List Con) :=
 bif s.seen.pair then bif s.seen.lit then E2z sp s c r (me m.2 (m.1,s.sky,s.body,())).1.g (me m.2 (m.1,s.sky,s.body,())).1.ok (me m.2 (m.1,s.sky,s.body,())).2
  else E2z sp s c r m.1 s.seen.pass m.2
 else E2z sp s c r m.1 s.seen.pass m.2
theorem V2k(mv:Bool→Gs×V3×Int×Unit→Gs×Bool)(me:Bool→Gs×P2×P2×Unit→GCB×Bool)(sp:Bool→Gs×Unit→Int×Bool)(s:Stp)(c:Crf)(r:Rds) :
  fnSum Tryz.prog {gam:=[(49,S 57 mv),(21,S 57 me),(50,S 57 sp)]} [] 20 91 [.ptr 0 0] (R0w s c r) =
  bif s.seen.gyro then bif r.p1 then G2a me sp s c r (mv false (c.guess,r.r1.v,s.gap,())) else G2a me sp s c r (mv false (c.guess,V3.zero,s.gap,()))
  else G2a me sp s c r (mv false (c.guess,c.guess.bias,s.gap,())):=by kernel_rfl
structure W0a where
 vn:Bool→V3×Unit→Int×Bool
 pl:Bool→Orb×Int×Unit→V3×Bool
 su:Bool→Int×Unit→V3×Bool
 sk:Bool→V3×Int×Unit→V3×Bool
 sh:Bool→V3×V3×Unit→Bool×Bool
 ap:Bool→V3×V3×Unit→Bool×Bool
def G3z(F:W0a):Gam:=[(137,S 57 F.vn),(168,S 57 F.pl),(169,S 57 F.su),(170,S 57 F.sk),(171,S 57 F.sh),(172,S 57 F.ap)]
def lkB(s:Stp)(c:Crf)(r:Rds)(a b:V3)(p:Bool):Option (AV×List Con):=blk1 {s with body:=⟨a,b⟩,seen:={s.seen with pair:=p}} c r
def lkP(F:W0a)(s:Stp)(c:Crf)(r:Rds)(fl:Bool):Option (AV×List Con) :=
 bif r.p2 then bif r.p3 then bif (F.ap fl (s.sky.a,s.sky.b,())).1 then lkB s c r r.r2.v r.r3.v (F.ap (F.ap fl (s.sky.a,s.sky.b,())).2 (r.r2.v,r.r3.v,())).1 else lkB s c r r.r2.v r.r3.v false
  else lkB s c r r.r2.v V3.zero false
 else bif r.p3 then lkB s c r V3.zero r.r3.v false else lkB s c r V3.zero V3.zero false
def lkS(F:W0a)(s:Stp)(c:Crf)(r:Rds)(pl su sk:V3×Bool):Option (AV×List Con) :=
 bif sk.2 then blk1 {s with sky:=⟨su.1,sk.1⟩} c r else lkP F {s with sky:=⟨su.1,sk.1⟩,seen:={s.seen with lit:=!(F.sh false (pl.1,su.1,())).1}} c r sk.2
def lkG(F:W0a)(s:Stp)(c:Crf)(r:Rds):Option (AV×List Con) :=
 bif !c.placed then blk1 s c r else
  lkS F s c r (F.pl false (c.orb,s.tk,())) (F.su (F.pl false (c.orb,s.tk,())).2 (s.tk,())) (F.sk (F.su (F.pl false (c.orb,s.tk,())).2 (s.tk,())).2 ((F.pl false (c.orb,s.tk,())).1,s.tk,()))
theorem C4p(F:W0a)(s:Stp)(c:Crf)(r:Rds):fnSum Tryz.prog {gam:=G3z F} [] 20 90 [.ptr 0 0] (R0w s c r) =
  bif r.p1 then lkG F {s with seen:={s.seen with gyro:=true,slow:=decide ((F.vn false (r.r1.v,())).1≤54975581388)}} c r else lkG F {s with seen:={s.seen with gyro:=false}} c r:=by kernel_rfl
noncomputable def A1q:Array Oper:=match Tryz.f225.body with | some (.seq (.region _ ops _) _)=>ops | _=>#[]
theorem E5w:Tryz.f225.body=some (.seq (.region 0 A1q false) (.seq (.region 1 lops true) .ret)):=by kernel_rfl
theorem H2t(Q:Exit→Act→World→Prop)(a:Act)(w:World)(h:Q .normal (a.put (some 0) (.map none)) w):wpOps Tryz.prog A1q Q (List.range A1q.size) a w:=by
 have e1:List.range A1q.size=[0]:=by kernel_rfl
 obtain ⟨o,ho,hop,hd,hg⟩:∃o,A1q[0]?=some o∧o.op=.assign (.const (.map none))∧o.dst=some 0∧o.guard=none:=by
  have:(A1q[0]?).map (fun o=>(o.op,o.dst,o.guard.isNone))=some (.assign (.const (.map none)),some 0,true):=by kernel_rfl
  cases ho:A1q[0]? with
  | none=>rw[ho]at this;cases this
  | some o =>
   rw[ho]at this
   simp only[Option.map_some,Option.some.injEq,Prod.mk.injEq]at this
   exact ⟨o,rfl,this.1,this.2.1,by simpa using this.2.2⟩
 rw[e1,wpOps_cons]
 unfold wpOp
 rw[ho]
 simp only
 rw[if_pos (by simp[Region.wanted,hg])]
 refine .inl ?_
 unfold Oper.wp
 have e2:(execOp a.eval o).run Tryz.prog w=.ok (.value (.map none)) w:=by simp only[execOp,hop,Act.eval,Sem.run_pure]
 rw[e2,Oper.upon_value,hd]
 simpa[wpOps]using h
theorem U1c(w:World):Calls Tryz.prog 225 #[] w fun e w'=>∃es c,e=.returned (.map (some w.heap.size))∧w'.heap=w.heap.push (.map es c)∧(∀p,p∈es.toList.map kvOf↔p∈G0h lbuf)∧w'.os=w.os∧w'.tape=w.tape∧w'.output=w.output:=by
 refine calls_of_wp Tryz.func225 E5w (wp_seq (wp_region (H2t _ _ _ (wp_seq (wp_region_any (by kernel_rfl) ?_)))))
 rw[U0y]
 have hst:LI w (fun i=>(Array.replicate 13 false).getD i true) (Act.put {tmps:=(#[]:Array Value)++Array.replicate (Tryz.f225.ntmps-(#[]:Array Value).size) undef,defers:=[]} (some 0) (.map none)) {w with drawn:=w.drawn+1}:=by
  have hz:∀i,i<13→(Array.replicate 13 false).getD i true=false:=fun i hi=>by simp[hi]
  refine ⟨rfl,by simp[Act.put],rfl,rfl,rfl,fun _=>rfl,fun h=>?_,fun i hi h=>?_,fun h=>?_,fun h=>?_,fun _ i hi=>hz _ (by omega)⟩
  ·rw[hz _ (by omega)]at h;cases h
  ·rw[hz _ (by omega)]at h;cases h
  ·rw[hz _ (by omega)]at h;cases h
  ·rw[hz _ (by omega)]at h;cases h
 refine LI.all _ (fun L a' w' h hall=>?_) 13 _ _ _ (by simp) (by simp) hst
 obtain ⟨_,es,c,h2,h3⟩:=h.m1 (hall 0 (by omega))
 have h0:=h.asg (hall 12 (by omega))
 have hres:(results Tryz.f225 a'.tmps).run Tryz.prog w'=.ok (.map (some w.heap.size)) w':=by
  simp[results,h0]
 refine wp_ret ?_
 refine bodyPost_ret hres h.defers ⟨es,c,rfl,h2,fun p=>(h3 p).trans ?_,h.os,h.tape,h.output⟩
 constructor
 ·rintro ⟨i,hi,_,rfl⟩
  match i,hi with
  | 0,_ | 1,_ | 2,_ | 3,_ | 4,_=>simp[lbuf,G0h]
 ·intro hp
  simp only[lbuf,G0h,List.mem_cons,List.not_mem_nil,or_false]at hp
  rcases hp with rfl | rfl | rfl | rfl | rfl
  ·exact ⟨0,by omega,hall _ (by omega),rfl⟩
  ·exact ⟨1,by omega,hall _ (by omega),rfl⟩
  ·exact ⟨2,by omega,hall _ (by omega),rfl⟩
  ·exact ⟨3,by omega,hall _ (by omega),rfl⟩
  ·exact ⟨4,by omega,hall _ (by omega),rfl⟩
def lmap:Obj:=.chan 0 (List.toArray lbuf) false 0 0 false
def P1a:D0c:=fun args cs=>match args,cs with
 | [],[]=>.ret (.map 0) [.obj lmap]
 | _,_=>.no
theorem W2g:A0h Tryz.prog 225 P1a:=by
 intro args cs r cs' hs
 unfold P1a at hs
 split at hs
 ·simp only[STr.sel,Option.some.injEq,Prod.mk.injEq]at hs
  obtain ⟨rfl,rfl⟩:=hs
  refine ⟨by simp,fun σ vals w hinj hbd hvals _ hn=>?_⟩
  simp only[Rels]at hvals
  subst hvals
  refine Calls.mono (U1c w) fun e w' he=>?_
  obtain ⟨es,c,rfl,h1,h2,h3,h4,h5⟩:=he
  have h0:σ 0=none:=hn 0 (by simp) (by simp)
  have hle:Le σ (fun b=>if b=0 then some w.heap.size else σ b):=by
   intro b r hb
   show (if b=0 then _ else _)=_
   rw[if_neg (fun e=>by rw[e,h0]at hb;cases hb)]
   exact hb
  have hheap:∀k,k<w.heap.size→w'.heap[k]?=w.heap[k]?:=fun k hk=>by rw[h1,Array.getElem?_push_lt hk,Array.getElem?_eq_getElem hk]
  refine ⟨_,_,rfl,hle,fun b hb hb2=>?_,?_,?_,?_,?_,?_,h3,h4,h5,by rw[h1];simp,fun k hk _=>hheap k hk⟩
  ·simp only[List.length_nil,List.length_cons]at hb2
   show (if b=0 then _ else _)=_
   rw[if_neg (by omega)];exact hb
  ·simp only[Rel];exact ⟨w.heap.size,by simp,rfl⟩
  ·intro b cc hb
   simp only[numH,hget]at hb
   split at hb
   ·rename_i e
    have :=Nat.eq_of_beq_eq_true e
    subst this
    cases hb
    refine ⟨w.heap.size,.map es c,by simp,by rw[h1];simp,es,c,rfl,fun p=>(h2 p).trans (by simp)⟩
   ·cases hb
  ·intro b b' r hb hb'
   split at hb<;>split at hb'
   ·omega
   ·simp only[Option.some.injEq]at hb;have :=hbd _ _ hb';omega
   ·simp only[Option.some.injEq]at hb';have :=hbd _ _ hb;omega
   ·exact hinj _ _ _ hb hb'
  ·intro b r hb
   split at hb
   ·simp only[Option.some.injEq]at hb;rw[h1];simp;omega
   ·have :=hbd _ _ hb;rw[h1];simp;omega
  ·intro b cc hb
   simp only[numH,hget]at hb
   split at hb
   ·rename_i e
    have :=Nat.eq_of_beq_eq_true e
    subst this
    exact .inr fun r hr=>by simp only[if_true,Option.some.injEq]at hr;omega
   ·cases hb
 ·simp[STr.sel]at hs
def agS(ag:Bool→Int→Int):D0c:=fun args cs=>match args,cs with
 | [.ptr 0 k,.val (.bool so),.val (.int .i64 m)],[.row 28 [.val (.int .i64 c0),.val (.int .i64 c1),.val (.int .i64 c2),.val (.int .i64 c3),.val (.int .i64 c4),.val (.int .i64 c5)]]=>match k with
  | 1=>.ret (.val (.bool (decide (ag so c1≥m)))) [.row 28 [.val (.int .i64 c0),.val (.int .i64 (ag so c1)),.val (.int .i64 c2),.val (.int .i64 c3),.val (.int .i64 c4),.val (.int .i64 c5)]]
  | 2=>.ret (.val (.bool (decide (ag so c2≥m)))) [.row 28 [.val (.int .i64 c0),.val (.int .i64 c1),.val (.int .i64 (ag so c2)),.val (.int .i64 c3),.val (.int .i64 c4),.val (.int .i64 c5)]]
  | 3=>.ret (.val (.bool (decide (ag so c3≥m)))) [.row 28 [.val (.int .i64 c0),.val (.int .i64 c1),.val (.int .i64 c2),.val (.int .i64 (ag so c3)),.val (.int .i64 c4),.val (.int .i64 c5)]]
  | 4=>.ret (.val (.bool (decide (ag so c4≥m)))) [.row 28 [.val (.int .i64 c0),.val (.int .i64 c1),.val (.int .i64 c2),.val (.int .i64 c3),.val (.int .i64 (ag so c4)),.val (.int .i64 c5)]]
  | _=>.no
 | _,_=>.no
def agV(so:Bool)(n:Int):Int:=bif so then cntV n else 0
theorem J1g{α:Type}[Cod α](c:Bool)(x y:α):(some (AV.val (Cod.enc (cond c x y)),([]:List Con)))=cond c (some (AV.val (Cod.enc x),[])) (some (AV.val (Cod.enc y),[])):=by cases c<;>rfl
theorem U2c(n:Int):decide (n<100)=!decide (n≥100):=by
 by_cases h:n<100
 ·rw[decide_eq_true h,decide_eq_false (by omega)];rfl
 ·rw[decide_eq_false h,decide_eq_true (by omega)];rfl
def J0y(c0 c1 c2 c3 c4 c5:Int):List Con:=[.row 28 [.val (.int .i64 c0),.val (.int .i64 c1),.val (.int .i64 c2),.val (.int .i64 c3),.val (.int .i64 c4),.val (.int .i64 c5)]]
theorem M5y(so:Bool)(m c0 c1 c2 c3 c4 c5:Int):fnSum Tryz.prog {gam:=[]} [] 20 226 [.ptr 0 1,.val (.bool so),.val (.int .i64 m)] (J0y c0 c1 c2 c3 c4 c5) =
 bif !so then some (.val (.bool (decide (0≥m))),J0y c0 0 c2 c3 c4 c5) else bif decide (c1<100) then some (.val (.bool (decide (IntKind.i64.wrap (c1+1)≥m))),J0y c0 (IntKind.i64.wrap (c1+1)) c2 c3 c4 c5) else some (.val (.bool (decide (100≥m))),J0y c0 100 c2 c3 c4 c5):=by kernel_rfl
theorem Q5n(so:Bool)(m c0 c1 c2 c3 c4 c5:Int):fnSum Tryz.prog {gam:=[]} [] 20 226 [.ptr 0 1,.val (.bool so),.val (.int .i64 m)] (J0y c0 c1 c2 c3 c4 c5)=some (.val (.bool (decide (agV so c1≥m))),J0y c0 (agV so c1) c2 c3 c4 c5):=by
 rw[M5y,U2c]
 unfold agV cntV
 cases so
 ·rfl
 ·cases decide (c1≥100)<;>rfl
theorem M5z(so:Bool)(m c0 c1 c2 c3 c4 c5:Int):fnSum Tryz.prog {gam:=[]} [] 20 226 [.ptr 0 2,.val (.bool so),.val (.int .i64 m)] (J0y c0 c1 c2 c3 c4 c5) =
 bif !so then some (.val (.bool (decide (0≥m))),J0y c0 c1 0 c3 c4 c5) else bif decide (c2<100) then some (.val (.bool (decide (IntKind.i64.wrap (c2+1)≥m))),J0y c0 c1 (IntKind.i64.wrap (c2+1)) c3 c4 c5) else some (.val (.bool (decide (100≥m))),J0y c0 c1 100 c3 c4 c5):=by kernel_rfl
theorem Q5p(so:Bool)(m c0 c1 c2 c3 c4 c5:Int):fnSum Tryz.prog {gam:=[]} [] 20 226 [.ptr 0 2,.val (.bool so),.val (.int .i64 m)] (J0y c0 c1 c2 c3 c4 c5)=some (.val (.bool (decide (agV so c2≥m))),J0y c0 c1 (agV so c2) c3 c4 c5):=by
 rw[M5z,U2c]
 unfold agV cntV
 cases so
 ·rfl
 ·cases decide (c2≥100)<;>rfl
theorem N5a(so:Bool)(m c0 c1 c2 c3 c4 c5:Int):fnSum Tryz.prog {gam:=[]} [] 20 226 [.ptr 0 3,.val (.bool so),.val (.int .i64 m)] (J0y c0 c1 c2 c3 c4 c5) =
 bif !so then some (.val (.bool (decide (0≥m))),J0y c0 c1 c2 0 c4 c5) else bif decide (c3<100) then some (.val (.bool (decide (IntKind.i64.wrap (c3+1)≥m))),J0y c0 c1 c2 (IntKind.i64.wrap (c3+1)) c4 c5) else some (.val (.bool (decide (100≥m))),J0y c0 c1 c2 100 c4 c5):=by kernel_rfl
theorem Q5q(so:Bool)(m c0 c1 c2 c3 c4 c5:Int):fnSum Tryz.prog {gam:=[]} [] 20 226 [.ptr 0 3,.val (.bool so),.val (.int .i64 m)] (J0y c0 c1 c2 c3 c4 c5)=some (.val (.bool (decide (agV so c3≥m))),J0y c0 c1 c2 (agV so c3) c4 c5):=by
 rw[N5a,U2c]
 unfold agV cntV
 cases so
 ·rfl
 ·cases decide (c3≥100)<;>rfl
theorem N5b(so:Bool)(m c0 c1 c2 c3 c4 c5:Int):fnSum Tryz.prog {gam:=[]} [] 20 226 [.ptr 0 4,.val (.bool so),.val (.int .i64 m)] (J0y c0 c1 c2 c3 c4 c5) =
 bif !so then some (.val (.bool (decide (0≥m))),J0y c0 c1 c2 c3 0 c5) else bif decide (c4<100) then some (.val (.bool (decide (IntKind.i64.wrap (c4+1)≥m))),J0y c0 c1 c2 c3 (IntKind.i64.wrap (c4+1)) c5) else some (.val (.bool (decide (100≥m))),J0y c0 c1 c2 c3 100 c5):=by kernel_rfl
theorem Q5r(so:Bool)(m c0 c1 c2 c3 c4 c5:Int):fnSum Tryz.prog {gam:=[]} [] 20 226 [.ptr 0 4,.val (.bool so),.val (.int .i64 m)] (J0y c0 c1 c2 c3 c4 c5)=some (.val (.bool (decide (agV so c4≥m))),J0y c0 c1 c2 c3 (agV so c4) c5):=by
 rw[N5b,U2c]
 unfold agV cntV
 cases so
 ·rfl
 ·cases decide (c4≥100)<;>rfl
theorem ok15:A0h Tryz.prog 226 (agS agV):=by
 refine K0a GamOk.nil (E:={gam:=[]}) fun args cs r cs' hs=>?_
 unfold agS at hs
 split at hs
 ·split at hs<;>simp only[STr.sel,Option.some.injEq,Prod.mk.injEq,reduceCtorEq]at hs<;>obtain ⟨rfl,rfl⟩:=hs
  ·exact ⟨by simp,20,Q5n ..⟩
  ·exact ⟨by simp,20,Q5p ..⟩
  ·exact ⟨by simp,20,Q5q ..⟩
  ·exact ⟨by simp,20,Q5r ..⟩
 ·simp[STr.sel]at hs
abbrev I_(n:Int):Value:=Value.int IntKind.i64 n
abbrev pEm(a b c d e f:Int):Option (AV×List Con):=some (AV.val (Value.agg (List.toArray [I_ a,I_ b,I_ c,I_ d,I_ e,I_ f])),[])
theorem t9(ag:Bool→Int→Int)(p:Pl)(s:Sn):fnSum Tryz.prog {gam:=[(225,P1a),(226,agS ag)],loud:=[225]} [] 20 173 [.val (Cod.enc p),.val (Cod.enc s)] []=(bif s.order==1 then pEm 3 0 0 0 0 p.faults else bif bif false then true else decide (p.mode<0) then pEm 3 0 0 0 0 p.faults else bif bif false then true else decide (p.mode>3) then pEm 3 0 0 0 0 p.faults else bif p.mode==3 then bif s.order==2 then pEm 0 0 0 0 0 0 else pEm p.mode p.calm p.good p.miss p.lost p.faults else bif s.gap then bif bif true then p.mode != 0 else false then bif p.mode==1&&(1==1&&true)||(p.mode==2&&(1==1&&true)||(p.mode==2&&(1==4&&true)||(p.mode==2&&(1==2&&true)||(p.mode==2&&(1==8&&true)||false)))) then pEm 1 0 0 0 0 (IntKind.i64.wrap ↑(BitVec.ofInt IntKind.i64.bits p.faults ||| BitVec.ofInt IntKind.i64.bits 1).toNat) else none else bif p.mode != 2 then bif p.mode==0 then bif s.gyro then bif decide (ag (bif true then s.slow else false) p.calm≥3) then pEm 1 0 0 0 0 p.faults else pEm p.mode (ag (bif true then s.slow else false) p.calm) p.good p.miss p.lost p.faults else bif decide (ag false p.calm≥3) then pEm 1 0 0 0 0 p.faults else pEm p.mode (ag false p.calm) p.good p.miss p.lost p.faults else bif p.mode==1 then bif s.gyro then bif bif true then !s.slow else false then pEm 0 0 0 0 0 p.faults else bif s.gyro then bif bif true then s.pair else false then bif decide (ag (bif true then s.lit else false) p.good≥2) then pEm 2 0 0 0 0 p.faults else pEm p.mode p.calm (ag (bif true then s.lit else false) p.good) p.miss p.lost p.faults else bif decide (ag false p.good≥2) then pEm 2 0 0 0 0 p.faults else pEm p.mode p.calm (ag false p.good) p.miss p.lost p.faults else bif decide (ag false p.good≥2) then pEm 2 0 0 0 0 p.faults else pEm p.mode p.calm (ag false p.good) p.miss p.lost p.faults else bif s.gyro then bif bif true then s.pair else false then bif decide (ag (bif true then s.lit else false) p.good≥2) then pEm 2 0 0 0 0 p.faults else pEm p.mode p.calm (ag (bif true then s.lit else false) p.good) p.miss p.lost p.faults else bif decide (ag false p.good≥2) then pEm 2 0 0 0 0 p.faults else pEm p.mode p.calm (ag false p.good) p.miss p.lost p.faults else bif decide (ag false p.good≥2) then pEm 2 0 0 0 0 p.faults else pEm p.mode p.calm (ag false p.good) p.miss p.lost p.faults else pEm p.mode p.calm p.good p.miss p.lost p.faults else bif s.bad then bif p.mode==1&&(4==1&&true)||(p.mode==2&&(4==1&&true)||(p.mode==2&&(4==4&&true)||(p.mode==2&&(4==2&&true)||(p.mode==2&&(4==8&&true)||false)))) then pEm 1 0 0 0 0 (IntKind.i64.wrap ↑(BitVec.ofInt IntKind.i64.bits p.faults ||| BitVec.ofInt IntKind.i64.bits 4).toNat) else none else bif decide (ag (!s.gyro) p.lost≥3) then bif p.mode==1&&(2==1&&true)||(p.mode==2&&(2==1&&true)||(p.mode==2&&(2==4&&true)||(p.mode==2&&(2==2&&true)||(p.mode==2&&(2==8&&true)||false)))) then pEm 1 0 0 0 0 (IntKind.i64.wrap ↑(BitVec.ofInt IntKind.i64.bits p.faults ||| BitVec.ofInt IntKind.i64.bits 2).toNat) else none else bif s.pair then bif bif true then s.lit else false then bif bif true then decide (ag (!s.pass) p.miss≥5) else false then bif p.mode==1&&(8==1&&true)||(p.mode==2&&(8==1&&true)||(p.mode==2&&(8==4&&true)||(p.mode==2&&(8==2&&true)||(p.mode==2&&(8==8&&true)||false)))) then pEm 1 0 0 0 0 (IntKind.i64.wrap ↑(BitVec.ofInt IntKind.i64.bits p.faults ||| BitVec.ofInt IntKind.i64.bits 8).toNat) else none else bif p.mode==0 then bif s.gyro then bif decide (ag (bif true then s.slow else false) p.calm≥3) then pEm 1 0 0 0 0 p.faults else pEm p.mode (ag (bif true then s.slow else false) p.calm) p.good (ag (!s.pass) p.miss) (ag (!s.gyro) p.lost) p.faults else bif decide (ag false p.calm≥3) then pEm 1 0 0 0 0 p.faults else pEm p.mode (ag false p.calm) p.good (ag (!s.pass) p.miss) (ag (!s.gyro) p.lost) p.faults else bif p.mode==1 then bif s.gyro then bif bif true then !s.slow else false then pEm 0 0 0 0 0 p.faults else bif s.gyro then bif bif true then s.pair else false then bif decide (ag (bif true then s.lit else false) p.good≥2) then pEm 2 0 0 0 0 p.faults else pEm p.mode p.calm (ag (bif true then s.lit else false) p.good) (ag (!s.pass) p.miss) (ag (!s.gyro) p.lost) p.faults else bif decide (ag false p.good≥2) then pEm 2 0 0 0 0 p.faults else pEm p.mode p.calm (ag false p.good) (ag (!s.pass) p.miss) (ag (!s.gyro) p.lost) p.faults else bif decide (ag false p.good≥2) then pEm 2 0 0 0 0 p.faults else pEm p.mode p.calm (ag false p.good) (ag (!s.pass) p.miss) (ag (!s.gyro) p.lost) p.faults else bif s.gyro then bif bif true then s.pair else false then bif decide (ag (bif true then s.lit else false) p.good≥2) then pEm 2 0 0 0 0 p.faults else pEm p.mode p.calm (ag (bif true then s.lit else false) p.good) (ag (!s.pass) p.miss) (ag (!s.gyro) p.lost) p.faults else bif decide (ag false p.good≥2) then pEm 2 0 0 0 0 p.faults else pEm p.mode p.calm (ag false p.good) (ag (!s.pass) p.miss) (ag (!s.gyro) p.lost) p.faults else bif decide (ag false p.good≥2) then pEm 2 0 0 0 0 p.faults else pEm p.mode p.calm (ag false p.good) (ag (!s.pass) p.miss) (ag (!s.gyro) p.lost) p.faults else pEm p.mode p.calm p.good (ag (!s.pass) p.miss) (ag (!s.gyro) p.lost) p.faults else bif p.mode==0 then bif s.gyro then bif decide (ag (bif true then s.slow else false) p.calm≥3) then pEm 1 0 0 0 0 p.faults else pEm p.mode (ag (bif true then s.slow else false) p.calm) p.good p.miss (ag (!s.gyro) p.lost) p.faults else bif decide (ag false p.calm≥3) then pEm 1 0 0 0 0 p.faults else pEm p.mode (ag false p.calm) p.good p.miss (ag (!s.gyro) p.lost) p.faults else bif p.mode==1 then bif s.gyro then bif bif true then !s.slow else false then pEm 0 0 0 0 0 p.faults else bif s.gyro then bif bif true then s.pair else false then bif decide (ag (bif true then s.lit else false) p.good≥2) then pEm 2 0 0 0 0 p.faults else pEm p.mode p.calm (ag (bif true then s.lit else false) p.good) p.miss (ag (!s.gyro) p.lost) p.faults else bif decide (ag false p.good≥2) then pEm 2 0 0 0 0 p.faults else pEm p.mode p.calm (ag false p.good) p.miss (ag (!s.gyro) p.lost) p.faults else bif decide (ag false p.good≥2) then pEm 2 0 0 0 0 p.faults else pEm p.mode p.calm (ag false p.good) p.miss (ag (!s.gyro) p.lost) p.faults else bif s.gyro then bif bif true then s.pair else false then bif decide (ag (bif true then s.lit else false) p.good≥2) then pEm 2 0 0 0 0 p.faults else pEm p.mode p.calm (ag (bif true then s.lit else false) p.good) p.miss (ag (!s.gyro) p.lost) p.faults else bif decide (ag false p.good≥2) then pEm 2 0 0 0 0 p.faults else pEm p.mode p.calm (ag false p.good) p.miss (ag (!s.gyro) p.lost) p.faults else bif decide (ag false p.good≥2) then pEm 2 0 0 0 0 p.faults else pEm p.mode p.calm (ag false p.good) p.miss (ag (!s.gyro) p.lost) p.faults else pEm p.mode p.calm p.good p.miss (ag (!s.gyro) p.lost) p.faults else bif p.mode==0 then bif s.gyro then bif decide (ag (bif true then s.slow else false) p.calm≥3) then pEm 1 0 0 0 0 p.faults else pEm p.mode (ag (bif true then s.slow else false) p.calm) p.good p.miss (ag (!s.gyro) p.lost) p.faults else bif decide (ag false p.calm≥3) then pEm 1 0 0 0 0 p.faults else pEm p.mode (ag false p.calm) p.good p.miss (ag (!s.gyro) p.lost) p.faults else bif p.mode==1 then bif s.gyro then bif bif true then !s.slow else false then pEm 0 0 0 0 0 p.faults else bif s.gyro then bif bif true then s.pair else false then bif decide (ag (bif true then s.lit else false) p.good≥2) then pEm 2 0 0 0 0 p.faults else pEm p.mode p.calm (ag (bif true then s.lit else false) p.good) p.miss (ag (!s.gyro) p.lost) p.faults else bif decide (ag false p.good≥2) then pEm 2 0 0 0 0 p.faults else pEm p.mode p.calm (ag false p.good) p.miss (ag (!s.gyro) p.lost) p.faults else bif decide (ag false p.good≥2) then pEm 2 0 0 0 0 p.faults else pEm p.mode p.calm (ag false p.good) p.miss (ag (!s.gyro) p.lost) p.faults else bif s.gyro then bif bif true then s.pair else false then bif decide (ag (bif true then s.lit else false) p.good≥2) then pEm 2 0 0 0 0 p.faults else pEm p.mode p.calm (ag (bif true then s.lit else false) p.good) p.miss (ag (!s.gyro) p.lost) p.faults else bif decide (ag false p.good≥2) then pEm 2 0 0 0 0 p.faults else pEm p.mode p.calm (ag false p.good) p.miss (ag (!s.gyro) p.lost) p.faults else bif decide (ag false p.good≥2) then pEm 2 0 0 0 0 p.faults else pEm p.mode p.calm (ag false p.good) p.miss (ag (!s.gyro) p.lost) p.faults else pEm p.mode p.calm p.good p.miss (ag (!s.gyro) p.lost) p.faults else bif p.mode != 2 then bif p.mode==0 then bif s.gyro then bif decide (ag (bif true then s.slow else false) p.calm≥3) then pEm 1 0 0 0 0 p.faults else pEm p.mode (ag (bif true then s.slow else false) p.calm) p.good p.miss p.lost p.faults else bif decide (ag false p.calm≥3) then pEm 1 0 0 0 0 p.faults else pEm p.mode (ag false p.calm) p.good p.miss p.lost p.faults else bif p.mode==1 then bif s.gyro then bif bif true then !s.slow else false then pEm 0 0 0 0 0 p.faults else bif s.gyro then bif bif true then s.pair else false then bif decide (ag (bif true then s.lit else false) p.good≥2) then pEm 2 0 0 0 0 p.faults else pEm p.mode p.calm (ag (bif true then s.lit else false) p.good) p.miss p.lost p.faults else bif decide (ag false p.good≥2) then pEm 2 0 0 0 0 p.faults else pEm p.mode p.calm (ag false p.good) p.miss p.lost p.faults else bif decide (ag false p.good≥2) then pEm 2 0 0 0 0 p.faults else pEm p.mode p.calm (ag false p.good) p.miss p.lost p.faults else bif s.gyro then bif bif true then s.pair else false then bif decide (ag (bif true then s.lit else false) p.good≥2) then pEm 2 0 0 0 0 p.faults else pEm p.mode p.calm (ag (bif true then s.lit else false) p.good) p.miss p.lost p.faults else bif decide (ag false p.good≥2) then pEm 2 0 0 0 0 p.faults else pEm p.mode p.calm (ag false p.good) p.miss p.lost p.faults else bif decide (ag false p.good≥2) then pEm 2 0 0 0 0 p.faults else pEm p.mode p.calm (ag false p.good) p.miss p.lost p.faults else pEm p.mode p.calm p.good p.miss p.lost p.faults else bif s.bad then bif p.mode==1&&(4==1&&true)||(p.mode==2&&(4==1&&true)||(p.mode==2&&(4==4&&true)||(p.mode==2&&(4==2&&true)||(p.mode==2&&(4==8&&true)||false)))) then pEm 1 0 0 0 0 (IntKind.i64.wrap ↑(BitVec.ofInt IntKind.i64.bits p.faults ||| BitVec.ofInt IntKind.i64.bits 4).toNat) else none else bif decide (ag (!s.gyro) p.lost≥3) then bif p.mode==1&&(2==1&&true)||(p.mode==2&&(2==1&&true)||(p.mode==2&&(2==4&&true)||(p.mode==2&&(2==2&&true)||(p.mode==2&&(2==8&&true)||false)))) then pEm 1 0 0 0 0 (IntKind.i64.wrap ↑(BitVec.ofInt IntKind.i64.bits p.faults ||| BitVec.ofInt IntKind.i64.bits 2).toNat) else none else bif s.pair then bif bif true then s.lit else false then bif bif true then decide (ag (!s.pass) p.miss≥5) else false then bif p.mode==1&&(8==1&&true)||(p.mode==2&&(8==1&&true)||(p.mode==2&&(8==4&&true)||(p.mode==2&&(8==2&&true)||(p.mode==2&&(8==8&&true)||false)))) then pEm 1 0 0 0 0 (IntKind.i64.wrap ↑(BitVec.ofInt IntKind.i64.bits p.faults ||| BitVec.ofInt IntKind.i64.bits 8).toNat) else none else bif p.mode==0 then bif s.gyro then bif decide (ag (bif true then s.slow else false) p.calm≥3) then pEm 1 0 0 0 0 p.faults else pEm p.mode (ag (bif true then s.slow else false) p.calm) p.good (ag (!s.pass) p.miss) (ag (!s.gyro) p.lost) p.faults else bif decide (ag false p.calm≥3) then pEm 1 0 0 0 0 p.faults else pEm p.mode (ag false p.calm) p.good (ag (!s.pass) p.miss) (ag (!s.gyro) p.lost) p.faults else bif p.mode==1 then bif s.gyro then bif bif true then !s.slow else false then pEm 0 0 0 0 0 p.faults else bif s.gyro then bif bif true then s.pair else false then bif decide (ag (bif true then s.lit else false) p.good≥2) then pEm 2 0 0 0 0 p.faults else pEm p.mode p.calm (ag (bif true then s.lit else false) p.good) (ag (!s.pass) p.miss) (ag (!s.gyro) p.lost) p.faults else bif decide (ag false p.good≥2) then pEm 2 0 0 0 0 p.faults else pEm p.mode p.calm (ag false p.good) (ag (!s.pass) p.miss) (ag (!s.gyro) p.lost) p.faults else bif decide (ag false p.good≥2) then pEm 2 0 0 0 0 p.faults else pEm p.mode p.calm (ag false p.good) (ag (!s.pass) p.miss) (ag (!s.gyro) p.lost) p.faults else bif s.gyro then bif bif true then s.pair else false then bif decide (ag (bif true then s.lit else false) p.good≥2) then pEm 2 0 0 0 0 p.faults else pEm p.mode p.calm (ag (bif true then s.lit else false) p.good) (ag (!s.pass) p.miss) (ag (!s.gyro) p.lost) p.faults else bif decide (ag false p.good≥2) then pEm 2 0 0 0 0 p.faults else pEm p.mode p.calm (ag false p.good) (ag (!s.pass) p.miss) (ag (!s.gyro) p.lost) p.faults else bif decide (ag false p.good≥2) then pEm 2 0 0 0 0 p.faults else pEm p.mode p.calm (ag false p.good) (ag (!s.pass) p.miss) (ag (!s.gyro) p.lost) p.faults else pEm p.mode p.calm p.good (ag (!s.pass) p.miss) (ag (!s.gyro) p.lost) p.faults else bif p.mode==0 then bif s.gyro then bif decide (ag (bif true then s.slow else false) p.calm≥3) then pEm 1 0 0 0 0 p.faults else pEm p.mode (ag (bif true then s.slow else false) p.calm) p.good p.miss (ag (!s.gyro) p.lost) p.faults else bif decide (ag false p.calm≥3) then pEm 1 0 0 0 0 p.faults else pEm p.mode (ag false p.calm) p.good p.miss (ag (!s.gyro) p.lost) p.faults else bif p.mode==1 then bif s.gyro then bif bif true then !s.slow else false then pEm 0 0 0 0 0 p.faults else bif s.gyro then bif bif true then s.pair else false then bif decide (ag (bif true then s.lit else false) p.good≥2) then pEm 2 0 0 0 0 p.faults else pEm p.mode p.calm (ag (bif true then s.lit else false) p.good) p.miss (ag (!s.gyro) p.lost) p.faults else bif decide (ag false p.good≥2) then pEm 2 0 0 0 0 p.faults else pEm p.mode p.calm (ag false p.good) p.miss (ag (!s.gyro) p.lost) p.faults else bif decide (ag false p.good≥2) then pEm 2 0 0 0 0 p.faults else pEm p.mode p.calm (ag false p.good) p.miss (ag (!s.gyro) p.lost) p.faults else bif s.gyro then bif bif true then s.pair else false then bif decide (ag (bif true then s.lit else false) p.good≥2) then pEm 2 0 0 0 0 p.faults else pEm p.mode p.calm (ag (bif true then s.lit else false) p.good) p.miss (ag (!s.gyro) p.lost) p.faults else bif decide (ag false p.good≥2) then pEm 2 0 0 0 0 p.faults else pEm p.mode p.calm (ag false p.good) p.miss (ag (!s.gyro) p.lost) p.faults else bif decide (ag false p.good≥2) then pEm 2 0 0 0 0 p.faults else pEm p.mode p.calm (ag false p.good) p.miss (ag (!s.gyro) p.lost) p.faults else pEm p.mode p.calm p.good p.miss (ag (!s.gyro) p.lost) p.faults else bif p.mode==0 then bif s.gyro then bif decide (ag (bif true then s.slow else false) p.calm≥3) then pEm 1 0 0 0 0 p.faults else pEm p.mode (ag (bif true then s.slow else false) p.calm) p.good p.miss (ag (!s.gyro) p.lost) p.faults else bif decide (ag false p.calm≥3) then pEm 1 0 0 0 0 p.faults else pEm p.mode (ag false p.calm) p.good p.miss (ag (!s.gyro) p.lost) p.faults else bif p.mode==1 then bif s.gyro then bif bif true then !s.slow else false then pEm 0 0 0 0 0 p.faults else bif s.gyro then bif bif true then s.pair else false then bif decide (ag (bif true then s.lit else false) p.good≥2) then pEm 2 0 0 0 0 p.faults else pEm p.mode p.calm (ag (bif true then s.lit else false) p.good) p.miss (ag (!s.gyro) p.lost) p.faults else bif decide (ag false p.good≥2) then pEm 2 0 0 0 0 p.faults else pEm p.mode p.calm (ag false p.good) p.miss (ag (!s.gyro) p.lost) p.faults else bif decide (ag false p.good≥2) then pEm 2 0 0 0 0 p.faults else pEm p.mode p.calm (ag false p.good) p.miss (ag (!s.gyro) p.lost) p.faults else bif s.gyro then bif bif true then s.pair else false then bif decide (ag (bif true then s.lit else false) p.good≥2) then pEm 2 0 0 0 0 p.faults else pEm p.mode p.calm (ag (bif true then s.lit else false) p.good) p.miss (ag (!s.gyro) p.lost) p.faults else bif decide (ag false p.good≥2) then pEm 2 0 0 0 0 p.faults else pEm p.mode p.calm (ag false p.good) p.miss (ag (!s.gyro) p.lost) p.faults else bif decide (ag false p.good≥2) then pEm 2 0 0 0 0 p.faults else pEm p.mode p.calm (ag false p.good) p.miss (ag (!s.gyro) p.lost) p.faults else pEm p.mode p.calm p.good p.miss (ag (!s.gyro) p.lost) p.faults):=by kernel_rfl
theorem N2w(a b:Int):orV a b=IntKind.i64.wrap ↑(BitVec.ofInt IntKind.i64.bits a ||| BitVec.ofInt IntKind.i64.bits b).toNat:=rfl
theorem z2:decide ((0:Int)≥2)=false:=rfl
theorem z3:decide ((0:Int)≥3)=false:=rfl
theorem z5:decide ((0:Int)≥5)=false:=rfl
theorem A2t(m:Int):(decide (m<0)=true∧(m==0)=false∧(m==1)=false∧(m==2)=false∧(m==3)=false)∨(decide (m<0)=false∧decide (m>3)=true∧(m==0)=false∧(m==1)=false∧(m==2)=false∧(m==3)=false) ∨
  m=0∨m=1∨m=2∨m=3:=by
 by_cases h:m<0
 ·exact .inl ⟨decide_eq_true h,beq_eq_false_iff_ne.2 (by omega),beq_eq_false_iff_ne.2 (by omega),beq_eq_false_iff_ne.2 (by omega),beq_eq_false_iff_ne.2 (by omega)⟩
 ·by_cases h':m>3
  ·exact .inr (.inl ⟨decide_eq_false h,decide_eq_true h',beq_eq_false_iff_ne.2 (by omega),beq_eq_false_iff_ne.2 (by omega),beq_eq_false_iff_ne.2 (by omega),beq_eq_false_iff_ne.2 (by omega)⟩)
  ·omega
theorem H5e(p:Pl)(s:Sn):fnSum Tryz.prog {gam:=[(225,P1a),(226,agS agV)],loud:=[225]} [] 20 173 [.val (Cod.enc p),.val (Cod.enc s)] []=some (.val (Cod.enc (H0v p s)),[]):=by
 rw[t9]
 simp only[pEm]
 unfold H0v
 cases s.order==1
 ·obtain ⟨mode,calm,good,miss,lost,faults⟩:=p
  dsimp only
  rcases A2t mode with ⟨h1,h2,h3,h4,h5⟩ | ⟨h1,h2,h3,h4,h5,h6⟩ | rfl | rfl | rfl | rfl
  ·rw[h1,h2,h3,h4,h5];rfl
  ·rw[h1,h2,h3,h4,h5,h6];rfl
  ·obtain ⟨gap,gyro,slow,pair,lit,bad,pass,order⟩:=s
   dsimp only
   cases gap<;>cases gyro<;>cases slow<;>simp only[J1g,Int.reduceBEq,Int.reduceBNe,Bool.or_true,Bool.or_false,Bool.true_or,Bool.false_or,z2,z3,z5,agV,toV,← N2w,cond_true,cond_false,Bool.and_true,Bool.and_false,Bool.true_and,Bool.false_and]<;>rfl
  ·obtain ⟨gap,gyro,slow,pair,lit,bad,pass,order⟩:=s
   dsimp only
   cases gap<;>cases gyro<;>cases slow<;>cases pair<;>cases lit<;>simp only[J1g,Int.reduceBEq,Int.reduceBNe,Bool.or_true,Bool.or_false,Bool.true_or,Bool.false_or,z2,z3,z5,agV,toV,← N2w,cond_true,cond_false,Bool.and_true,Bool.and_false,Bool.true_and,Bool.false_and,Bool.not_true,Bool.not_false]<;>rfl
  ·obtain ⟨gap,gyro,slow,pair,lit,bad,pass,order⟩:=s
   dsimp only
   unfold G2d
   dsimp only
   cases gap<;>cases bad<;>cases gyro<;>cases pair<;>cases lit<;>cases pass<;>simp only[J1g,Int.reduceBEq,Int.reduceBNe,Bool.or_true,Bool.or_false,Bool.true_or,Bool.false_or,z2,z3,z5,agV,toV,← N2w,cond_true,cond_false,Bool.and_true,Bool.and_false,Bool.true_and,Bool.false_and,Bool.not_true,Bool.not_false]<;>rfl
  ·cases s.order==2<;>rfl
 ·rfl
theorem ok9:A0h Tryz.prog 173 (S0 fun (p:Pl×Sn×Unit)=>H0v p.1 p.2.1):=H0n (E:={gam:=[(225,P1a),(226,agS agV)],loud:=[225]}) (.cons W2g (.cons ok15 .nil)) 20 fun a=>H5e a.1 a.2.1
def Dr.zero:Dr:=⟨false,0,V3.zero,V3.zero⟩
def P3x(o:Ops)(t b l r:Int)(f:Bool):Int×Bool :=
 let s:=o.sub f b l
 let p:=o.part s.2 s.1 1000 t
 let q:=o.sub p.2 p.1 r
 let k:=o.part q.2 q.1 t (IntKind.i64.wrap (t+2000))
 o.add k.2 r k.1
def Y2r(o:Ops)(t:Int)(d:Dr)(u:V3)(f:Bool):V3×Bool:=P0e f (P3x o t u.x d.last.x d.rate.x) (P3x o t u.y d.last.y d.rate.y) (P3x o t u.z d.last.z d.rate.z)
def A2j(o:Ops)(u:V3)(f:Bool):V3×Bool:=P0e f (fun b=>o.add b u.x 0) (fun b=>o.add b u.y 0) (fun b=>o.add b u.z 0)
def U2y(e:TypeId)(d:Dr)(f:Bool):Option (AV×List Con):=bif f then sayS e Dr.zero f else sayS e d f
where sayS (e:TypeId) (d:Dr) (f:Bool):Option (AV×List Con):=some (.val (Cod.enc d),row e f)
theorem P4p(o:Ops)(bt:Int×Int×Unit→Two Int Bool)(va:Bool→V3×V3×Unit→V3×Bool)(b:Bool)(d:Dr)(u:V3)(tk:Int) :
  fnSum Tryz.prog {gam:=(167,S0 bt) :: (146,S 57 va) :: gamN o} [] 20 89 [.ptr 0 0,.val (Cod.enc d),.val (Cod.enc u),.val (.int .i64 tk)] (row 57 b) =
   let l:=va b (u,V3.zero,())
   let t:=bt (d.tick,tk,())
   bif t.b then bif d.on then U2y 57 ⟨true,tk,l.1,(Y2r o t.a d u l.2).1⟩ (Y2r o t.a d u l.2).2 else U2y 57 ⟨true,tk,l.1,V3.zero⟩ l.2 else U2y 57 ⟨true,tk,l.1,V3.zero⟩ l.2:=by kernel_rfl
theorem E3e(s t:Int):fnSum Tryz.prog {gam:=[]} [] 20 167 [.val (.int .i64 s),.val (.int .i64 t)] [] =
  bif decide (t<s) then some (.val (Cod.enc (Two.mk (0:Int) false)),[]) else
   let d:=IntKind.u64.wrap (IntKind.u64.wrap t-IntKind.u64.wrap s)
   bif decide (d≥10) then some (.val (Cod.enc (Two.mk (IntKind.i64.wrap d) (decide (d≤10000)))),[]) else some (.val (Cod.enc (Two.mk (IntKind.i64.wrap d) false)),[]):=by kernel_rfl
end Go.Ab
namespace Go.Ab
open Go
def i64?(x:Int):Bool:=decide (-9223372036854775808≤x∧x<9223372036854775808)
end Go.Ab
namespace Go.Ab
open Go Go.Proofs
def gapT(tk dt:Int):Int:=if 10≤tk-dt∧tk-dt≤10000 then tk-dt else 0
def btV(p:Int×Int×Unit):Two Int Bool :=
 bif decide (p.2.1<p.1) then ⟨0,false⟩ else ⟨IntKind.i64.wrap (IntKind.u64.wrap (IntKind.u64.wrap p.2.1-IntKind.u64.wrap p.1)),
  bif decide (IntKind.u64.wrap (IntKind.u64.wrap p.2.1-IntKind.u64.wrap p.1)≥10) then decide (IntKind.u64.wrap (IntKind.u64.wrap p.2.1-IntKind.u64.wrap p.1)≤10000) else false⟩
theorem H5y:A0h Tryz.prog 167 (S0 btV):=H0n (E:={gam:=[]}) GamOk.nil 20 fun a=>by
 refine (E3e a.1 a.2.1).trans ?_
 unfold btV
 dsimp only
 generalize IntKind.u64.wrap (IntKind.u64.wrap a.2.1-IntKind.u64.wrap a.1)=D
 cases decide (a.2.1<a.1)<;>cases decide (D≥10)<;>rfl
theorem W3a{s t:Int}(hs:i64? s=true)(ht:i64? t=true):((btV (s,t,())).b=true→(btV (s,t,())).a=gapT t s∧gapT t s≠0)∧((btV (s,t,())).b=false→gapT t s=0):=by
 simp only[i64?,decide_eq_true_eq]at hs ht
 unfold btV gapT
 dsimp only
 by_cases h:t<s
 ·simp only[h,decide_true,cond_true]
  refine ⟨fun h=>absurd h (by simp),fun _=>?_⟩
  rw[if_neg (by omega)]
 ·have e:IntKind.u64.wrap (IntKind.u64.wrap t-IntKind.u64.wrap s)=t-s:=by simp only[R0b];omega
  rw[e]
  simp only[h,decide_false,cond_false]
  by_cases h1:t-s≥10
  ·by_cases h2:t-s≤10000
   ·simp only[h1,h2,decide_true,cond_true]
    refine ⟨fun _=>?_,fun h=>absurd h (by simp)⟩
    rw[A0q (z:=t-s) (by omega) (by omega),if_pos ⟨trivial,trivial⟩]
    exact ⟨rfl,by omega⟩
   ·simp only[h1,h2,decide_true,decide_false,cond_true]
    refine ⟨fun h=>absurd h (by simp),fun _=>?_⟩
    rw[if_neg fun h=>h.2]
  ·simp only[h1,decide_false,cond_false]
   refine ⟨fun h=>absurd h (by simp),fun _=>?_⟩
   rw[if_neg fun h=>h.1]
abbrev StA:=Dr×V3×Int×Unit
def W1j(p:StA):Bool:=i64? p.1.tick&&i64? p.2.2.1
def R2g(b:Bool)(p:StA):Dr×Bool :=
 let f:=(A2j opsF p.2.1 b).2
 let r:=Y2r opsF (gapT p.2.2.1 p.1.tick) p.1 p.2.1 f
 bif !p.1.on||gapT p.2.2.1 p.1.tick==0 then (bif f then (Dr.zero,f) else (⟨true,p.2.2.1,p.2.1,V3.zero⟩,f)) else (bif r.2 then (Dr.zero,r.2) else (⟨true,p.2.2.1,p.2.1,r.1⟩,r.2))
theorem U2z(e:TypeId)(d:Dr)(f:Bool):U2y e d f=some (.val (Cod.enc (bif f then (Dr.zero,f) else (d,f)).1),row e (bif f then (Dr.zero,f) else (d,f)).2):=by cases f<;>rfl
theorem W0p{x v:Int}(h:fadd false x 0=(v,false)):v=x:=by
 unfold fadd at h
 rw[Int.add_zero]at h
 generalize (!false&&(num x&&(num 0&&num x)))=t at h
 cases t with
 | true=>simp only[cond_true,Prod.mk.injEq]at h;exact h.1.symm
 | false=>simp at h
theorem H3y{u:V3}{b:Bool}(h:(A2j opsF u b).2=false):(A2j opsF u b).1=u:=by
 unfold A2j P0e at h ⊢
 simp only[opsF]at h ⊢
 have hs:∀x y,fadd true x y=(0,true):=fun _ _=>rfl
 cases b
 ·rcases h1:fadd false u.x 0 with ⟨x,f1⟩
  rw[h1]at h
  cases f1
  ·rcases h2:fadd false u.y 0 with ⟨y,f2⟩
   simp only[h2]at h
   cases f2
   ·rcases h3:fadd false u.z 0 with ⟨z,f3⟩
    simp only[h3]at h
    subst h
    simp only[W0p h1,W0p h2,W0p h3]
   ·simp[hs]at h
  ·simp[hs]at h
 ·simp[hs]at h
theorem P2q(t:Int)(d:Dr)(u:V3):(Y2r opsF t d u true).2=true:=rfl
theorem T2n(u:V3)(b:Bool):vop fadd b (u,V3.zero,())=P0d (A2j opsF u b):=rfl
theorem ok58:A0h Tryz.prog 89 (Sc 57 W1j R2g):=by
 refine K0h (E:={gam:=(167,S0 btV) :: (146,S 57 (vop fadd)) :: gamN opsF}) (.cons H5y (.cons ok50 A0u)) 20 fun b p hp=>?_
 obtain ⟨d,u,tk,_⟩:=p
 refine (P4p opsF btV (vop fadd) b d u tk).trans ?_
 simp only[W1j,Bool.and_eq_true]at hp
 obtain ⟨h1,h2⟩:=W3a hp.1 hp.2
 dsimp only
 rw[T2n]
 simp only[U2z,P0d]
 unfold R2g
 dsimp only
 cases hf:(A2j opsF u b).2 with
 | true =>
  simp only[P2q,cond_true]
  cases (btV (d.tick,tk,())).b<;>cases d.on<;>cases (gapT tk d.tick==0)<;>rfl
 | false =>
  simp only[cond_false,H3y hf]
  cases hb:(btV (d.tick,tk,())).b with
  | false =>
   have :=h2 hb
   rw[this]
   cases d.on<;>rfl
  | true =>
   obtain ⟨e1,e2⟩:=h1 hb
   rw[e1,show (gapT tk d.tick==0)=false by simp;exact e2]
   cases d.on<;>rfl
theorem X1c(s:Stp)(c:Crf)(r:Rds):blk1 s c r=some (X0u,stpX (s,c,r)):=rfl
def H1h(p:V4×Unit):Gs:=start p.1
def C0y(b:Bool)(p:Gs×Unit):Int×Bool:=Z1a opsF b p.1
def U1e:Bool→Gs×V3×Int×Unit→Gs×Bool:=W0z FP
def D1r:Bool→Gs×P2×P2×Unit→GCB×Bool:=K0r GP
theorem X2z:A0h Tryz.prog 48 (S0 H1h):=H5v
theorem N2g:A0h Tryz.prog 50 (S 57 C0y):=H5w
def P2g(nx:Pl×Sn×Unit→Pl)(at_:Bool→P2×P2×Unit→V4×Bool)(st:V4×Unit→Gs)(x:CX):CX :=
 bif (nx (x.2.1.plan,x.1.seen,())).mode==2 then bif x.2.1.plan.mode != 2 then bif (at_ false (x.1.sky,x.1.body,())).2 then (x.1,{x.2.1 with plan:=⟨1,0,0,0,0,orJ (nx (x.2.1.plan,x.1.seen,())).faults 4⟩,guess:=Gs.zero},x.2.2)
   else bif (nx (x.2.1.plan,x.1.seen,())).mode != 2 then (x.1,{x.2.1 with plan:=nx (x.2.1.plan,x.1.seen,()),guess:=Gs.zero},x.2.2) else (x.1,{x.2.1 with plan:=nx (x.2.1.plan,x.1.seen,()),guess:=st ((at_ false (x.1.sky,x.1.body,())).1,())},x.2.2)
   else bif (nx (x.2.1.plan,x.1.seen,())).mode != 2 then (x.1,{x.2.1 with plan:=nx (x.2.1.plan,x.1.seen,()),guess:=Gs.zero},x.2.2) else (x.1,{x.2.1 with plan:=nx (x.2.1.plan,x.1.seen,())},x.2.2)
  else bif (nx (x.2.1.plan,x.1.seen,())).mode != 2 then (x.1,{x.2.1 with plan:=nx (x.2.1.plan,x.1.seen,()),guess:=Gs.zero},x.2.2) else (x.1,{x.2.1 with plan:=nx (x.2.1.plan,x.1.seen,())},x.2.2)
def N0h:CX→CX:=P2g (fun p=>H0v p.1 p.2.1) G0q H1h
theorem L4h:A0h Tryz.prog 92 (ySM N0h):=C2w (E:={gam:=[(173,S0 fun (p:Pl×Sn×Unit)=>H0v p.1 p.2.1),(174,S 57 G0q),(48,S0 H1h)]}) (.cons ok9 (.cons ok98 (.cons X2z .nil))) 20 fun x _ _=>by
 refine (M4d (fun p=>H0v p.1 p.2.1) G0q H1h x.1 x.2.1 x.2.2).trans ?_
 simp only[X1c,L0h]
 rfl
def N0v(sp:Bool→Gs×Unit→Int×Bool)(x:CX)(g:Gs)(pass fl:Bool):CX :=
 bif decide ((sp fl (g,())).1>274877906944) then ({x.1 with seen:={x.1.seen with pass:=pass,bad:=true}},{x.2.1 with guess:=g},x.2.2)
 else ({x.1 with seen:={x.1.seen with pass:=pass,bad:=(sp fl (g,())).2}},{x.2.1 with guess:=g},x.2.2)
theorem G3u(sp:Bool→Gs×Unit→Int×Bool)(s:Stp)(c:Crf)(r:Rds)(g:Gs)(pass fl:Bool):E2z sp s c r g pass fl=some (X0u,stpX (N0v sp (s,c,r) g pass fl)):=by
 unfold E2z
 simp only[X1c,L0h]
 rfl
def N0w(me:Bool→Gs×P2×P2×Unit→GCB×Bool)(sp:Bool→Gs×Unit→Int×Bool)(x:CX)(m:Gs×Bool):CX :=
 bif x.1.seen.pair then bif x.1.seen.lit then N0v sp x (me m.2 (m.1,x.1.sky,x.1.body,())).1.g (me m.2 (m.1,x.1.sky,x.1.body,())).1.ok (me m.2 (m.1,x.1.sky,x.1.body,())).2
  else N0v sp x m.1 x.1.seen.pass m.2
 else N0v sp x m.1 x.1.seen.pass m.2
theorem G3v(me:Bool→Gs×P2×P2×Unit→GCB×Bool)(sp:Bool→Gs×Unit→Int×Bool)(s:Stp)(c:Crf)(r:Rds)(m:Gs×Bool):G2a me sp s c r m=some (X0u,stpX (N0w me sp (s,c,r) m)):=by
 unfold G2a
 simp only[G3u,L0h]
 rfl
def V2j(mv:Bool→Gs×V3×Int×Unit→Gs×Bool)(me:Bool→Gs×P2×P2×Unit→GCB×Bool)(sp:Bool→Gs×Unit→Int×Bool)(x:CX):CX :=
 bif x.1.seen.gyro then bif x.2.2.p1 then N0w me sp x (mv false (x.2.1.guess,x.2.2.r1.v,x.1.gap,())) else N0w me sp x (mv false (x.2.1.guess,V3.zero,x.1.gap,()))
  else N0w me sp x (mv false (x.2.1.guess,x.2.1.guess.bias,x.1.gap,()))
def J0p:CX→CX:=V2j U1e D1r C0y
theorem X2t:A0h Tryz.prog 91 (ySM J0p):=C2w (E:={gam:=[(49,S 57 U1e),(21,S 57 D1r),(50,S 57 C0y)]}) (.cons N3m (.cons N3j (.cons N2g .nil))) 20 fun x _ _=>by
 refine (V2k U1e D1r C0y x.1 x.2.1 x.2.2).trans ?_
 simp only[G3v,L0h]
 rfl
def lkBX(x:CX)(a b:V3)(p:Bool):CX:=({x.1 with body:=⟨a,b⟩,seen:={x.1.seen with pair:=p}},x.2.1,x.2.2)
theorem G5m(s:Stp)(c:Crf)(r:Rds)(a b:V3)(p:Bool):lkB s c r a b p=some (X0u,stpX (lkBX (s,c,r) a b p)):=rfl
def lkPX(F:W0a)(x:CX)(fl:Bool):CX :=
 bif x.2.2.p2 then bif x.2.2.p3 then bif (F.ap fl (x.1.sky.a,x.1.sky.b,())).1 then lkBX x x.2.2.r2.v x.2.2.r3.v (F.ap (F.ap fl (x.1.sky.a,x.1.sky.b,())).2 (x.2.2.r2.v,x.2.2.r3.v,())).1 else lkBX x x.2.2.r2.v x.2.2.r3.v false
  else lkBX x x.2.2.r2.v V3.zero false
 else bif x.2.2.p3 then lkBX x V3.zero x.2.2.r3.v false else lkBX x V3.zero V3.zero false
theorem G5p(F:W0a)(s:Stp)(c:Crf)(r:Rds)(fl:Bool):lkP F s c r fl=some (X0u,stpX (lkPX F (s,c,r) fl)):=by
 unfold lkP
 simp only[G5m,L0h]
 rfl
def lkSX(F:W0a)(x:CX)(pl su sk:V3×Bool):CX :=
 bif sk.2 then ({x.1 with sky:=⟨su.1,sk.1⟩},x.2.1,x.2.2) else lkPX F ({x.1 with sky:=⟨su.1,sk.1⟩,seen:={x.1.seen with lit:=!(F.sh false (pl.1,su.1,())).1}},x.2.1,x.2.2) sk.2
theorem G5q(F:W0a)(s:Stp)(c:Crf)(r:Rds)(pl su sk:V3×Bool):lkS F s c r pl su sk=some (X0u,stpX (lkSX F (s,c,r) pl su sk)):=by
 unfold lkS
 simp only[G5p,X1c,L0h]
 rfl
def lkGX(F:W0a)(x:CX):CX :=
 bif !x.2.1.placed then x else
  lkSX F x (F.pl false (x.2.1.orb,x.1.tk,())) (F.su (F.pl false (x.2.1.orb,x.1.tk,())).2 (x.1.tk,())) (F.sk (F.su (F.pl false (x.2.1.orb,x.1.tk,())).2 (x.1.tk,())).2 ((F.pl false (x.2.1.orb,x.1.tk,())).1,x.1.tk,()))
theorem G5n(F:W0a)(s:Stp)(c:Crf)(r:Rds):lkG F s c r=some (X0u,stpX (lkGX F (s,c,r))):=by
 unfold lkG
 simp only[G5q,X1c,L0h]
 rfl
def J3h(F:W0a)(x:CX):CX :=
 bif x.2.2.p1 then lkGX F ({x.1 with seen:={x.1.seen with gyro:=true,slow:=decide ((F.vn false (x.2.2.r1.v,())).1≤54975581388)}},x.2.1,x.2.2) else lkGX F ({x.1 with seen:={x.1.seen with gyro:=false}},x.2.1,x.2.2)
def LK:W0a:={vn:=E0t opsF,pl:=C3t,su:=sunV,sk:=skyV,sh:=C3z,ap:=apart (H0r E0b)}
def K1c:CX→CX:=J3h LK
theorem C5a:GamOk Tryz.prog (G3z LK):=.cons ok66 (.cons N3p (.cons K5a (.cons J5y (.cons N3r (.cons ok96 .nil)))))
theorem L4b:A0h Tryz.prog 90 (ySM K1c):=C2w (E:={gam:=G3z LK}) C5a 20 fun x _ _=>by
 refine (C4p LK x.1 x.2.1 x.2.2).trans ?_
 simp only[G5n,L0h]
 rfl
end Go.Ab
