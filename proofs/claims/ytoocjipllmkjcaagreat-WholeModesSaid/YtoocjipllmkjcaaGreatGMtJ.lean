/- A part of the proofs: lemmas, no statement of their own; no condition. -/
import Derived.Test.YtoocjipllmkjcaaGreatGMtC
import Derived.Test.YtoocjipllmkjcaaGreatMtD
import Derived.Test.YtoocjipllmkjcaaGreatFjE
import Derived.Test.YtoocjipllmkjcaaGreatGFjK
import Derived.Test.YtoocjipllmkjcaaGreatMtI
import Derived.Test.YtoocjipllmkjcaaGreatGTrB
import Derived.Test.YtoocjipllmkjcaaGreatGMoL
set_option linter.unusedSimpArgs false
namespace Go.Ab
open Go Go.Proofs
theorem solve76_bad(o:Ops)(b:Bool)(m:M6)(y:R6)(n:Int):fnSum Tryz.prog {gam:=gamN o} mute 20 62 [.ptr 0 0,.val (Cod.enc m),.val (Cod.enc y),.val (.int .i64 n)] (row 57 b)=badT 57 (Cod.enc R6.zero) b n:=by kernel_rfl
theorem ok76:SumOk Tryz.prog 62 (S 57 (matSolve opsF)):=by
 refine S_join fun (a:M6×R6×Int×Unit)=>?_
 cases hn:okN a.2.2.1 with
 | false =>
  refine ⟨fun p=>!okN p.2.2.1,by simp only[hn,Bool.not_false],?_⟩
  refine Sc_okH (E:={gam:=gamN opsF}) gamN_ok (hB:=mute) muteFit 20 fun b p hp=>?_
  obtain ⟨m,y,n,_⟩:=p
  have hp':okN n=false:=by simpa using hp
  refine ((solve76_bad opsF b m y n).trans (badT_eq hp')).trans ?_
  show _=some (AV.val (Cod.enc (byN R6.zero n b _).1),row 57 (byN R6.zero n b _).2)
  rw[byN_no _ _ _ hp']
 | true =>
  rcases okN_cases hn with h | h | h | h | h | h
  ·refine ⟨fun p=>decide (p.2.2.1=1),by simp only[h,decide_true],?_⟩
   refine Sc_ok (E:={gam:=gamN opsF}) gamN_ok 20 fun b p hp=>?_
   obtain ⟨m,y,n,_⟩:=p
   have hp':n=1:=by simpa using hp
   subst hp'
   refine (solve76_1 opsF b m y).trans ?_
   unfold solveT
   rw[doneRT_eq]
   exact endT_eq 57 R6.zero b (doneR (solve0 opsF b m y 1))
  ·refine ⟨fun p=>decide (p.2.2.1=2),by simp only[h,decide_true],?_⟩
   refine Sc_ok (E:={gam:=gamN opsF}) gamN_ok 20 fun b p hp=>?_
   obtain ⟨m,y,n,_⟩:=p
   have hp':n=2:=by simpa using hp
   subst hp'
   refine (solve76_2 opsF b m y).trans ?_
   unfold solveT
   rw[doneRT_eq]
   exact endT_eq 57 R6.zero b (doneR (solve0 opsF b m y 2))
  ·refine ⟨fun p=>decide (p.2.2.1=3),by simp only[h,decide_true],?_⟩
   refine Sc_ok (E:={gam:=gamN opsF}) gamN_ok 20 fun b p hp=>?_
   obtain ⟨m,y,n,_⟩:=p
   have hp':n=3:=by simpa using hp
   subst hp'
   refine (solve76_3 opsF b m y).trans ?_
   unfold solveT
   rw[doneRT_eq]
   exact endT_eq 57 R6.zero b (doneR (solve0 opsF b m y 3))
  ·refine ⟨fun p=>decide (p.2.2.1=4),by simp only[h,decide_true],?_⟩
   refine Sc_ok (E:={gam:=gamN opsF}) gamN_ok 20 fun b p hp=>?_
   obtain ⟨m,y,n,_⟩:=p
   have hp':n=4:=by simpa using hp
   subst hp'
   refine (solve76_4 opsF b m y).trans ?_
   unfold solveT
   rw[doneRT_eq]
   exact endT_eq 57 R6.zero b (doneR (solve0 opsF b m y 4))
  ·refine ⟨fun p=>decide (p.2.2.1=5),by simp only[h,decide_true],?_⟩
   refine Sc_ok (E:={gam:=gamN opsF}) gamN_ok 20 fun b p hp=>?_
   obtain ⟨m,y,n,_⟩:=p
   have hp':n=5:=by simpa using hp
   subst hp'
   refine (solve76_5 opsF b m y).trans ?_
   unfold solveT
   rw[doneRT_eq]
   exact endT_eq 57 R6.zero b (doneR (solve0 opsF b m y 5))
  ·refine ⟨fun p=>decide (p.2.2.1=6),by simp only[h,decide_true],?_⟩
   refine Sc_ok (E:={gam:=gamN opsF}) gamN_ok 20 fun b p hp=>?_
   obtain ⟨m,y,n,_⟩:=p
   have hp':n=6:=by simpa using hp
   subst hp'
   refine (solve76_6 opsF b m y).trans ?_
   unfold solveT
   rw[doneRT_eq]
   exact endT_eq 57 R6.zero b (doneR (solve0 opsF b m y 6))
end Go.Ab
namespace Go.Ab
open Go Go.Proofs
def frF:RFun:=fromRod opsF vopsF (qunit opsF)
def tuF:TFun:=turnedO qmul frF
def ptF:Bool→Gs×Unit→X13×Bool:=fun b p=>pointsJ opsF (matRootN opsF) jobsP b p.1
def stF:Bool→V4×V3×R6×M6×Unit→Two Gs Bool×Bool:=settleO (vop fadd) (qunit opsF) tuF
def FP:FOps:={o:=opsF,vs:=vop fsub,tu:=tuF,un:=qunit opsF,mu:=qmul,tr:=toRod opsF,bk:=qback,pt:=ptF,cen:=centerV opsF,pro:=prodV opsF,ont:=ontoV opsF,st:=stF}
def GP:GOps:={o:=opsF,vu:=vunit opsF,tu:=tuF,qt:=qturn vopsF,pt:=ptF,cen:=centerV opsF,pro:=prodV opsF,ont:=ontoV opsF,rt:=matRootN opsF,so:=matSolve opsF,ap:=matApply opsF,st:=stF}
theorem okTurned:SumOk Tryz.prog 54 (S 57 tuF):=S_ok (E:={gam:=[(135,S 57 qmul),(142,S 57 frF)]}) (.cons ok92 (.cons ok80 .nil)) 20 fun b a=>turned54 qmul frF b a.1 a.2.1
theorem okSettle:SumOk Tryz.prog 66 (S 57 stF):=S_ok (E:={gam:=[(146,S 57 (vop fadd)),(133,S 57 (qunit opsF)),(54,S 57 tuF),(53,S0 fun (p:R6×Unit)=>halvesV p.1)]}) (.cons ok50 (.cons ok72 (.cons okTurned (.cons okHalves .nil)))) 20 fun b a=>by
 refine (settle66 (vop fadd) (qunit opsF) tuF b a.1 a.2.1 a.2.2.1 a.2.2.2.1).trans ?_
 unfold stF settleO
 dsimp only
 generalize settle0 (vop fadd) (qunit opsF) tuF b a.1 a.2.1 a.2.2.1 a.2.2.2.1=r
 obtain ⟨r,f⟩:=r
 cases f<;>rfl
theorem gamFP:GamOk Tryz.prog (eM FP).gam:=.cons ok52 (.cons okTurned (.cons ok72 (.cons ok92 (.cons ok82 (.cons ok91 (.cons ok107 (.cons (okCtr gamN_ok) (.cons (okPrd gamN_ok) (.cons (okOnt gamN_ok) (.cons okSettle (.cons okHalves (.cons okJoin (.cons ok116 (.cons ok115 .nil))))))))))))))
theorem gamGP:GamOk Tryz.prog (eE GP).gam:=.cons ok68 (.cons okTurned (.cons ok87 (.cons ok107 (.cons (okCtr gamN_ok) (.cons (okPrd gamN_ok) (.cons (okOnt gamN_ok) (.cons ok64 (.cons ok76 (.cons ok85 (.cons okSettle (.cons okHalves (.cons okJoin (.cons ok124 (.cons ok127 (.cons ok121 (.cons ok116 .nil))))))))))))))))
theorem okMeetF:SumOk Tryz.prog 21 (S 57 (meetO GP)):=okMeet gamGP
theorem okMoveF:SumOk Tryz.prog 49 (S 57 (moveO FP)):=okMove gamFP
end Go.Ab
namespace Go.Ab
open Go Go.Proofs
def orJ(a b:Int):Int:=IntKind.i64.wrap ((BitVec.ofInt IntKind.i64.bits a ||| BitVec.ofInt IntKind.i64.bits b).toNat:Int)
def blk1(s:Stp)(c:Crf)(r:Rds):Option (AV×List Con):=some (unit0,stpBlk s c r)
theorem plan92(nx:Pl×Sn×Unit→Pl)(at_:Bool→P2×P2×Unit→V4×Bool)(st:V4×Unit→Gs)(s:Stp)(c:Crf)(r:Rds):fnSum Tryz.prog {gam:=[(173,S0 nx),(174,S 57 at_),(48,S0 st)]} [] 20 92 [.ptr 0 0] (stpBlk s c r) =
  bif (nx (c.plan,s.seen,())).mode==2 then bif c.plan.mode != 2 then bif (at_ false (s.sky,s.body,())).2 then blk1 s {c with plan:=⟨1,0,0,0,0,orJ (nx (c.plan,s.seen,())).faults 4⟩,guess:=Gs.zero} r
   else bif (nx (c.plan,s.seen,())).mode != 2 then blk1 s {c with plan:=nx (c.plan,s.seen,()),guess:=Gs.zero} r else blk1 s {c with plan:=nx (c.plan,s.seen,()),guess:=st ((at_ false (s.sky,s.body,())).1,())} r
   else bif (nx (c.plan,s.seen,())).mode != 2 then blk1 s {c with plan:=nx (c.plan,s.seen,()),guess:=Gs.zero} r else blk1 s {c with plan:=nx (c.plan,s.seen,())} r
  else bif (nx (c.plan,s.seen,())).mode != 2 then blk1 s {c with plan:=nx (c.plan,s.seen,()),guess:=Gs.zero} r else blk1 s {c with plan:=nx (c.plan,s.seen,())} r:=by kernel_rfl
end Go.Ab
namespace Go.Ab
open Go Go.Proofs
def filtE(sp:Bool→Gs×Unit→Int×Bool)(s:Stp)(c:Crf)(r:Rds)(g:Gs)(pass fl:Bool):Option (AV×List Con) :=
 bif decide ((sp fl (g,())).1>274877906944) then blk1 {s with seen:={s.seen with pass:=pass,bad:=true}} {c with guess:=g} r
 else blk1 {s with seen:={s.seen with pass:=pass,bad:=(sp fl (g,())).2}} {c with guess:=g} r
def filtM(me:Bool→Gs×P2×P2×Unit→GCB×Bool)(sp:Bool→Gs×Unit→Int×Bool)(s:Stp)(c:Crf)(r:Rds)(m:Gs×Bool):Option (AV×List Con) :=
 bif s.seen.pair then bif s.seen.lit then filtE sp s c r (me m.2 (m.1,s.sky,s.body,())).1.g (me m.2 (m.1,s.sky,s.body,())).1.ok (me m.2 (m.1,s.sky,s.body,())).2
  else filtE sp s c r m.1 s.seen.pass m.2
 else filtE sp s c r m.1 s.seen.pass m.2
theorem filter91(mv:Bool→Gs×V3×Int×Unit→Gs×Bool)(me:Bool→Gs×P2×P2×Unit→GCB×Bool)(sp:Bool→Gs×Unit→Int×Bool)(s:Stp)(c:Crf)(r:Rds) :
  fnSum Tryz.prog {gam:=[(49,S 57 mv),(21,S 57 me),(50,S 57 sp)]} [] 20 91 [.ptr 0 0] (stpBlk s c r) =
  bif s.seen.gyro then bif r.p1 then filtM me sp s c r (mv false (c.guess,r.r1.v,s.gap,())) else filtM me sp s c r (mv false (c.guess,V3.zero,s.gap,()))
  else filtM me sp s c r (mv false (c.guess,c.guess.bias,s.gap,())):=by kernel_rfl
end Go.Ab
namespace Go.Ab
open Go Go.Proofs
structure LkOps where
 vn:Bool→V3×Unit→Int×Bool
 pl:Bool→Orb×Int×Unit→V3×Bool
 su:Bool→Int×Unit→V3×Bool
 sk:Bool→V3×Int×Unit→V3×Bool
 sh:Bool→V3×V3×Unit→Bool×Bool
 ap:Bool→V3×V3×Unit→Bool×Bool
def gamLk(F:LkOps):Gam:=[(137,S 57 F.vn),(168,S 57 F.pl),(169,S 57 F.su),(170,S 57 F.sk),(171,S 57 F.sh),(172,S 57 F.ap)]
def lkB(s:Stp)(c:Crf)(r:Rds)(a b:V3)(p:Bool):Option (AV×List Con):=blk1 {s with body:=⟨a,b⟩,seen:={s.seen with pair:=p}} c r
def lkP(F:LkOps)(s:Stp)(c:Crf)(r:Rds)(fl:Bool):Option (AV×List Con) :=
 bif r.p2 then bif r.p3 then bif (F.ap fl (s.sky.a,s.sky.b,())).1 then lkB s c r r.r2.v r.r3.v (F.ap (F.ap fl (s.sky.a,s.sky.b,())).2 (r.r2.v,r.r3.v,())).1 else lkB s c r r.r2.v r.r3.v false
  else lkB s c r r.r2.v V3.zero false
 else bif r.p3 then lkB s c r V3.zero r.r3.v false else lkB s c r V3.zero V3.zero false
def lkS(F:LkOps)(s:Stp)(c:Crf)(r:Rds)(pl su sk:V3×Bool):Option (AV×List Con) :=
 bif sk.2 then blk1 {s with sky:=⟨su.1,sk.1⟩} c r else lkP F {s with sky:=⟨su.1,sk.1⟩,seen:={s.seen with lit:=!(F.sh false (pl.1,su.1,())).1}} c r sk.2
def lkG(F:LkOps)(s:Stp)(c:Crf)(r:Rds):Option (AV×List Con) :=
 bif !c.placed then blk1 s c r else
  lkS F s c r (F.pl false (c.orb,s.tk,())) (F.su (F.pl false (c.orb,s.tk,())).2 (s.tk,())) (F.sk (F.su (F.pl false (c.orb,s.tk,())).2 (s.tk,())).2 ((F.pl false (c.orb,s.tk,())).1,s.tk,()))
theorem look90(F:LkOps)(s:Stp)(c:Crf)(r:Rds):fnSum Tryz.prog {gam:=gamLk F} [] 20 90 [.ptr 0 0] (stpBlk s c r) =
  bif r.p1 then lkG F {s with seen:={s.seen with gyro:=true,slow:=decide ((F.vn false (r.r1.v,())).1≤54975581388)}} c r else lkG F {s with seen:={s.seen with gyro:=false}} c r:=by kernel_rfl
end Go.Ab
namespace Go.Ab
open Go Go.Proofs
noncomputable def lfirst:Array Oper:=match Tryz.f225.body with | some (.seq (.region _ ops _) _)=>ops | _=>#[]
theorem lbody:Tryz.f225.body=some (.seq (.region 0 lfirst false) (.seq (.region 1 lops true) .ret)):=by kernel_rfl
theorem lfirst_wp(Q:Exit→Act→World→Prop)(a:Act)(w:World)(h:Q .normal (a.put (some 0) (.map none)) w):wpOps Tryz.prog lfirst Q (List.range lfirst.size) a w:=by
 have e1:List.range lfirst.size=[0]:=by kernel_rfl
 obtain ⟨o,ho,hop,hd,hg⟩:∃o,lfirst[0]?=some o∧o.op=.assign (.const (.map none))∧o.dst=some 0∧o.guard=none:=by
  have:(lfirst[0]?).map (fun o=>(o.op,o.dst,o.guard.isNone))=some (.assign (.const (.map none)),some 0,true):=by kernel_rfl
  cases ho:lfirst[0]? with
  | none=>rw[ho]at this;cases this
  | some o =>
   rw[ho]at this
   simp only[Option.map_some,Option.some.injEq,Prod.mk.injEq]at this
   exact ⟨o,rfl,this.1,this.2.1,by simpa using this.2.2⟩
 rw[e1,wpOps_cons]
 unfold wpOp
 rw[ho]
 simp only
 rw[if_pos (by simp[Region.wanted,hg])]
 refine .inl ?_
 unfold Oper.wp
 have e2:(execOp a.eval o).run Tryz.prog w=.ok (.value (.map none)) w:=by simp only[execOp,hop,Act.eval,Sem.run_pure]
 rw[e2,Oper.upon_value,hd]
 simpa[wpOps]using h
theorem leads_calls(w:World):Calls Tryz.prog 225 #[] w fun e w'=>∃es c,e=.returned (.map (some w.heap.size))∧w'.heap=w.heap.push (.map es c)∧(∀p,p∈es.toList.map kvOf↔p∈pairsOf lbuf)∧w'.os=w.os∧w'.tape=w.tape∧w'.output=w.output:=by
 refine calls_of_wp Tryz.func225 lbody (wp_seq (wp_region (lfirst_wp _ _ _ (wp_seq (wp_region_any (by kernel_rfl) ?_)))))
 rw[lop_size]
 have hst:LI w (fun i=>(Array.replicate 13 false).getD i true) (Act.put {tmps:=(#[]:Array Value)++Array.replicate (Tryz.f225.ntmps-(#[]:Array Value).size) undef,defers:=[]} (some 0) (.map none)) {w with drawn:=w.drawn+1}:=by
  have hz:∀i,i<13→(Array.replicate 13 false).getD i true=false:=fun i hi=>by simp[hi]
  refine ⟨rfl,by simp[Act.put],rfl,rfl,rfl,fun _=>rfl,fun h=>?_,fun i hi h=>?_,fun h=>?_,fun h=>?_,fun _ i hi=>hz _ (by omega)⟩
  ·rw[hz _ (by omega)]at h;cases h
  ·rw[hz _ (by omega)]at h;cases h
  ·rw[hz _ (by omega)]at h;cases h
  ·rw[hz _ (by omega)]at h;cases h
 refine LI.all _ (fun L a' w' h hall=>?_) 13 _ _ _ (by simp) (by simp) hst
 obtain ⟨_,es,c,h2,h3⟩:=h.m1 (hall 0 (by omega))
 have h0:=h.asg (hall 12 (by omega))
 have hres:(results Tryz.f225 a'.tmps).run Tryz.prog w'=.ok (.map (some w.heap.size)) w':=by
  simp[results,h0]
 refine wp_ret ?_
 refine bodyPost_ret hres h.defers ⟨es,c,rfl,h2,fun p=>(h3 p).trans ?_,h.os,h.tape,h.output⟩
 constructor
 ·rintro ⟨i,hi,_,rfl⟩
  match i,hi with
  | 0,_ | 1,_ | 2,_ | 3,_ | 4,_=>simp[lbuf,pairsOf]
 ·intro hp
  simp only[lbuf,pairsOf,List.mem_cons,List.not_mem_nil,or_false]at hp
  rcases hp with rfl | rfl | rfl | rfl | rfl
  ·exact ⟨0,by omega,hall _ (by omega),rfl⟩
  ·exact ⟨1,by omega,hall _ (by omega),rfl⟩
  ·exact ⟨2,by omega,hall _ (by omega),rfl⟩
  ·exact ⟨3,by omega,hall _ (by omega),rfl⟩
  ·exact ⟨4,by omega,hall _ (by omega),rfl⟩
def lmap:Obj:=.chan 0 (List.toArray lbuf) false 0 0 false
def leadsS:Summary:=fun args cs=>match args,cs with
 | [],[]=>.ret (.map 0) [.obj lmap]
 | _,_=>.no
theorem leads_ok:SumOk Tryz.prog 225 leadsS:=by
 intro args cs r cs' hs
 unfold leadsS at hs
 split at hs
 ·simp only[STr.sel,Option.some.injEq,Prod.mk.injEq]at hs
  obtain ⟨rfl,rfl⟩:=hs
  refine ⟨by simp,fun σ vals w hinj hbd hvals _ hn=>?_⟩
  simp only[Rels]at hvals
  subst hvals
  refine Calls.mono (leads_calls w) fun e w' he=>?_
  obtain ⟨es,c,rfl,h1,h2,h3,h4,h5⟩:=he
  have h0:σ 0=none:=hn 0 (by simp) (by simp)
  have hle:Le σ (fun b=>if b=0 then some w.heap.size else σ b):=by
   intro b r hb
   show (if b=0 then _ else _)=_
   rw[if_neg (fun e=>by rw[e,h0]at hb;cases hb)]
   exact hb
  have hheap:∀k,k<w.heap.size→w'.heap[k]?=w.heap[k]?:=fun k hk=>by rw[h1,Array.getElem?_push_lt hk,Array.getElem?_eq_getElem hk]
  refine ⟨_,_,rfl,hle,fun b hb hb2=>?_,?_,?_,?_,?_,?_,h3,h4,h5,by rw[h1];simp,fun k hk _=>hheap k hk⟩
  ·simp only[List.length_nil,List.length_cons]at hb2
   show (if b=0 then _ else _)=_
   rw[if_neg (by omega)];exact hb
  ·simp only[Rel];exact ⟨w.heap.size,by simp,rfl⟩
  ·intro b cc hb
   simp only[numH,hget]at hb
   split at hb
   ·rename_i e
    have :=Nat.eq_of_beq_eq_true e
    subst this
    cases hb
    refine ⟨w.heap.size,.map es c,by simp,by rw[h1];simp,es,c,rfl,fun p=>(h2 p).trans (by simp)⟩
   ·cases hb
  ·intro b b' r hb hb'
   split at hb<;>split at hb'
   ·omega
   ·simp only[Option.some.injEq]at hb;have :=hbd _ _ hb';omega
   ·simp only[Option.some.injEq]at hb';have :=hbd _ _ hb;omega
   ·exact hinj _ _ _ hb hb'
  ·intro b r hb
   split at hb
   ·simp only[Option.some.injEq]at hb;rw[h1];simp;omega
   ·have :=hbd _ _ hb;rw[h1];simp;omega
  ·intro b cc hb
   simp only[numH,hget]at hb
   split at hb
   ·rename_i e
    have :=Nat.eq_of_beq_eq_true e
    subst this
    exact .inr fun r hr=>by simp only[if_true,Option.some.injEq]at hr;omega
   ·cases hb
 ·simp[STr.sel]at hs
end Go.Ab
namespace Go.Ab
open Go Go.Proofs
def agS(ag:Bool→Int→Int):Summary:=fun args cs=>match args,cs with
 | [.ptr 0 k,.val (.bool so),.val (.int .i64 m)],[.row 28 [.val (.int .i64 c0),.val (.int .i64 c1),.val (.int .i64 c2),.val (.int .i64 c3),.val (.int .i64 c4),.val (.int .i64 c5)]]=>match k with
  | 1=>.ret (.val (.bool (decide (ag so c1≥m)))) [.row 28 [.val (.int .i64 c0),.val (.int .i64 (ag so c1)),.val (.int .i64 c2),.val (.int .i64 c3),.val (.int .i64 c4),.val (.int .i64 c5)]]
  | 2=>.ret (.val (.bool (decide (ag so c2≥m)))) [.row 28 [.val (.int .i64 c0),.val (.int .i64 c1),.val (.int .i64 (ag so c2)),.val (.int .i64 c3),.val (.int .i64 c4),.val (.int .i64 c5)]]
  | 3=>.ret (.val (.bool (decide (ag so c3≥m)))) [.row 28 [.val (.int .i64 c0),.val (.int .i64 c1),.val (.int .i64 c2),.val (.int .i64 (ag so c3)),.val (.int .i64 c4),.val (.int .i64 c5)]]
  | 4=>.ret (.val (.bool (decide (ag so c4≥m)))) [.row 28 [.val (.int .i64 c0),.val (.int .i64 c1),.val (.int .i64 c2),.val (.int .i64 c3),.val (.int .i64 (ag so c4)),.val (.int .i64 c5)]]
  | _=>.no
 | _,_=>.no
def agV(so:Bool)(n:Int):Int:=bif so then cntV n else 0
theorem enc_cond{α:Type}[Cod α](c:Bool)(x y:α):(some (AV.val (Cod.enc (cond c x y)),([]:List Con)))=cond c (some (AV.val (Cod.enc x),[])) (some (AV.val (Cod.enc y),[])):=by cases c<;>rfl
theorem ag_lt(n:Int):decide (n<100)=!decide (n≥100):=by
 by_cases h:n<100
 ·rw[decide_eq_true h,decide_eq_false (by omega)];rfl
 ·rw[decide_eq_false h,decide_eq_true (by omega)];rfl
def row23(c0 c1 c2 c3 c4 c5:Int):List Con:=[.row 28 [.val (.int .i64 c0),.val (.int .i64 c1),.val (.int .i64 c2),.val (.int .i64 c3),.val (.int .i64 c4),.val (.int .i64 c5)]]
theorem t15_1(so:Bool)(m c0 c1 c2 c3 c4 c5:Int):fnSum Tryz.prog {gam:=[]} [] 20 226 [.ptr 0 1,.val (.bool so),.val (.int .i64 m)] (row23 c0 c1 c2 c3 c4 c5) =
 bif !so then some (.val (.bool (decide (0≥m))),row23 c0 0 c2 c3 c4 c5) else bif decide (c1<100) then some (.val (.bool (decide (IntKind.i64.wrap (c1+1)≥m))),row23 c0 (IntKind.i64.wrap (c1+1)) c2 c3 c4 c5) else some (.val (.bool (decide (100≥m))),row23 c0 100 c2 c3 c4 c5):=by kernel_rfl
theorem v15_1(so:Bool)(m c0 c1 c2 c3 c4 c5:Int):fnSum Tryz.prog {gam:=[]} [] 20 226 [.ptr 0 1,.val (.bool so),.val (.int .i64 m)] (row23 c0 c1 c2 c3 c4 c5)=some (.val (.bool (decide (agV so c1≥m))),row23 c0 (agV so c1) c2 c3 c4 c5):=by
 rw[t15_1,ag_lt]
 unfold agV cntV
 cases so
 ·rfl
 ·cases decide (c1≥100)<;>rfl
theorem t15_2(so:Bool)(m c0 c1 c2 c3 c4 c5:Int):fnSum Tryz.prog {gam:=[]} [] 20 226 [.ptr 0 2,.val (.bool so),.val (.int .i64 m)] (row23 c0 c1 c2 c3 c4 c5) =
 bif !so then some (.val (.bool (decide (0≥m))),row23 c0 c1 0 c3 c4 c5) else bif decide (c2<100) then some (.val (.bool (decide (IntKind.i64.wrap (c2+1)≥m))),row23 c0 c1 (IntKind.i64.wrap (c2+1)) c3 c4 c5) else some (.val (.bool (decide (100≥m))),row23 c0 c1 100 c3 c4 c5):=by kernel_rfl
theorem v15_2(so:Bool)(m c0 c1 c2 c3 c4 c5:Int):fnSum Tryz.prog {gam:=[]} [] 20 226 [.ptr 0 2,.val (.bool so),.val (.int .i64 m)] (row23 c0 c1 c2 c3 c4 c5)=some (.val (.bool (decide (agV so c2≥m))),row23 c0 c1 (agV so c2) c3 c4 c5):=by
 rw[t15_2,ag_lt]
 unfold agV cntV
 cases so
 ·rfl
 ·cases decide (c2≥100)<;>rfl
theorem t15_3(so:Bool)(m c0 c1 c2 c3 c4 c5:Int):fnSum Tryz.prog {gam:=[]} [] 20 226 [.ptr 0 3,.val (.bool so),.val (.int .i64 m)] (row23 c0 c1 c2 c3 c4 c5) =
 bif !so then some (.val (.bool (decide (0≥m))),row23 c0 c1 c2 0 c4 c5) else bif decide (c3<100) then some (.val (.bool (decide (IntKind.i64.wrap (c3+1)≥m))),row23 c0 c1 c2 (IntKind.i64.wrap (c3+1)) c4 c5) else some (.val (.bool (decide (100≥m))),row23 c0 c1 c2 100 c4 c5):=by kernel_rfl
theorem v15_3(so:Bool)(m c0 c1 c2 c3 c4 c5:Int):fnSum Tryz.prog {gam:=[]} [] 20 226 [.ptr 0 3,.val (.bool so),.val (.int .i64 m)] (row23 c0 c1 c2 c3 c4 c5)=some (.val (.bool (decide (agV so c3≥m))),row23 c0 c1 c2 (agV so c3) c4 c5):=by
 rw[t15_3,ag_lt]
 unfold agV cntV
 cases so
 ·rfl
 ·cases decide (c3≥100)<;>rfl
theorem t15_4(so:Bool)(m c0 c1 c2 c3 c4 c5:Int):fnSum Tryz.prog {gam:=[]} [] 20 226 [.ptr 0 4,.val (.bool so),.val (.int .i64 m)] (row23 c0 c1 c2 c3 c4 c5) =
 bif !so then some (.val (.bool (decide (0≥m))),row23 c0 c1 c2 c3 0 c5) else bif decide (c4<100) then some (.val (.bool (decide (IntKind.i64.wrap (c4+1)≥m))),row23 c0 c1 c2 c3 (IntKind.i64.wrap (c4+1)) c5) else some (.val (.bool (decide (100≥m))),row23 c0 c1 c2 c3 100 c5):=by kernel_rfl
theorem v15_4(so:Bool)(m c0 c1 c2 c3 c4 c5:Int):fnSum Tryz.prog {gam:=[]} [] 20 226 [.ptr 0 4,.val (.bool so),.val (.int .i64 m)] (row23 c0 c1 c2 c3 c4 c5)=some (.val (.bool (decide (agV so c4≥m))),row23 c0 c1 c2 c3 (agV so c4) c5):=by
 rw[t15_4,ag_lt]
 unfold agV cntV
 cases so
 ·rfl
 ·cases decide (c4≥100)<;>rfl
theorem ok15:SumOk Tryz.prog 226 (agS agV):=by
 refine sumOk_of GamOk.nil (E:={gam:=[]}) fun args cs r cs' hs=>?_
 unfold agS at hs
 split at hs
 ·split at hs<;>simp only[STr.sel,Option.some.injEq,Prod.mk.injEq,reduceCtorEq]at hs<;>obtain ⟨rfl,rfl⟩:=hs
  ·exact ⟨by simp,20,v15_1 ..⟩
  ·exact ⟨by simp,20,v15_2 ..⟩
  ·exact ⟨by simp,20,v15_3 ..⟩
  ·exact ⟨by simp,20,v15_4 ..⟩
 ·simp[STr.sel]at hs
theorem t17(n:Int):fnSum Tryz.prog {gam:=[]} [] 20 46 [.val (.int .i64 n)] []=some (.val (Cod.enc (cntV n)),[]):=by
 have e:fnSum Tryz.prog {gam:=[]} [] 20 46 [.val (.int .i64 n)] []=bif decide (n≥100) then some (.val (.int .i64 100),[]) else some (.val (.int .i64 (IntKind.i64.wrap (n+1))),[]):=by kernel_rfl
 rw[e]
 unfold cntV
 cases decide (n≥100)<;>rfl
theorem ok17:SumOk Tryz.prog 46 (S0 fun (p:Int×Unit)=>cntV p.1):=S0_ok (E:={gam:=[]}) GamOk.nil 20 fun a=>t17 a.1
end Go.Ab
namespace Go.Ab
open Go Go.Proofs
abbrev I_(n:Int):Value:=Value.int IntKind.i64 n
theorem t9(ag:Bool→Int→Int)(p:Pl)(s:Sn):fnSum Tryz.prog {gam:=[(225,leadsS),(226,agS ag)],loud:=[225]} [] 20 173 [.val (Cod.enc p),.val (Cod.enc s)] []=(bif s.order==1 then some (AV.val (Value.agg (List.toArray [I_ 3,I_ 0,I_ 0,I_ 0,I_ 0,I_ p.faults])),[]) else bif bif false then true else decide (p.mode<0) then some (AV.val (Value.agg (List.toArray [I_ 3,I_ 0,I_ 0,I_ 0,I_ 0,I_ p.faults])),[]) else bif bif false then true else decide (p.mode>3) then some (AV.val (Value.agg (List.toArray [I_ 3,I_ 0,I_ 0,I_ 0,I_ 0,I_ p.faults])),[]) else bif p.mode==3 then bif s.order==2 then some (AV.val (Value.agg (List.toArray [I_ 0,I_ 0,I_ 0,I_ 0,I_ 0,I_ 0])),[]) else some (AV.val (Value.agg (List.toArray [I_ p.mode,I_ p.calm,I_ p.good,I_ p.miss,I_ p.lost,I_ p.faults])),[]) else bif s.gap then bif bif true then p.mode != 0 else false then bif p.mode==1&&(1==1&&true)||(p.mode==2&&(1==1&&true)||(p.mode==2&&(1==4&&true)||(p.mode==2&&(1==2&&true)||(p.mode==2&&(1==8&&true)||false)))) then some (AV.val (Value.agg (List.toArray [I_ 1,I_ 0,I_ 0,I_ 0,I_ 0,I_ (IntKind.i64.wrap ↑(BitVec.ofInt IntKind.i64.bits p.faults ||| BitVec.ofInt IntKind.i64.bits 1).toNat)])),[]) else none else bif p.mode != 2 then bif p.mode==0 then bif s.gyro then bif decide (ag (bif true then s.slow else false) p.calm≥3) then some (AV.val (Value.agg (List.toArray [I_ 1,I_ 0,I_ 0,I_ 0,I_ 0,I_ p.faults])),[]) else some (AV.val (Value.agg (List.toArray [I_ p.mode,I_ (ag (bif true then s.slow else false) p.calm),I_ p.good,I_ p.miss,I_ p.lost,I_ p.faults])),[]) else bif decide (ag false p.calm≥3) then some (AV.val (Value.agg (List.toArray [I_ 1,I_ 0,I_ 0,I_ 0,I_ 0,I_ p.faults])),[]) else some (AV.val (Value.agg (List.toArray [I_ p.mode,I_ (ag false p.calm),I_ p.good,I_ p.miss,I_ p.lost,I_ p.faults])),[]) else bif p.mode==1 then bif s.gyro then bif bif true then !s.slow else false then some (AV.val (Value.agg (List.toArray [I_ 0,I_ 0,I_ 0,I_ 0,I_ 0,I_ p.faults])),[]) else bif s.gyro then bif bif true then s.pair else false then bif decide (ag (bif true then s.lit else false) p.good≥2) then some (AV.val (Value.agg (List.toArray [I_ 2,I_ 0,I_ 0,I_ 0,I_ 0,I_ p.faults])),[]) else some (AV.val (Value.agg (List.toArray [I_ p.mode,I_ p.calm,I_ (ag (bif true then s.lit else false) p.good),I_ p.miss,I_ p.lost,I_ p.faults])),[]) else bif decide (ag false p.good≥2) then some (AV.val (Value.agg (List.toArray [I_ 2,I_ 0,I_ 0,I_ 0,I_ 0,I_ p.faults])),[]) else some (AV.val (Value.agg (List.toArray [I_ p.mode,I_ p.calm,I_ (ag false p.good),I_ p.miss,I_ p.lost,I_ p.faults])),[]) else bif decide (ag false p.good≥2) then some (AV.val (Value.agg (List.toArray [I_ 2,I_ 0,I_ 0,I_ 0,I_ 0,I_ p.faults])),[]) else some (AV.val (Value.agg (List.toArray [I_ p.mode,I_ p.calm,I_ (ag false p.good),I_ p.miss,I_ p.lost,I_ p.faults])),[]) else bif s.gyro then bif bif true then s.pair else false then bif decide (ag (bif true then s.lit else false) p.good≥2) then some (AV.val (Value.agg (List.toArray [I_ 2,I_ 0,I_ 0,I_ 0,I_ 0,I_ p.faults])),[]) else some (AV.val (Value.agg (List.toArray [I_ p.mode,I_ p.calm,I_ (ag (bif true then s.lit else false) p.good),I_ p.miss,I_ p.lost,I_ p.faults])),[]) else bif decide (ag false p.good≥2) then some (AV.val (Value.agg (List.toArray [I_ 2,I_ 0,I_ 0,I_ 0,I_ 0,I_ p.faults])),[]) else some (AV.val (Value.agg (List.toArray [I_ p.mode,I_ p.calm,I_ (ag false p.good),I_ p.miss,I_ p.lost,I_ p.faults])),[]) else bif decide (ag false p.good≥2) then some (AV.val (Value.agg (List.toArray [I_ 2,I_ 0,I_ 0,I_ 0,I_ 0,I_ p.faults])),[]) else some (AV.val (Value.agg (List.toArray [I_ p.mode,I_ p.calm,I_ (ag false p.good),I_ p.miss,I_ p.lost,I_ p.faults])),[]) else some (AV.val (Value.agg (List.toArray [I_ p.mode,I_ p.calm,I_ p.good,I_ p.miss,I_ p.lost,I_ p.faults])),[]) else bif s.bad then bif p.mode==1&&(4==1&&true)||(p.mode==2&&(4==1&&true)||(p.mode==2&&(4==4&&true)||(p.mode==2&&(4==2&&true)||(p.mode==2&&(4==8&&true)||false)))) then some (AV.val (Value.agg (List.toArray [I_ 1,I_ 0,I_ 0,I_ 0,I_ 0,I_ (IntKind.i64.wrap ↑(BitVec.ofInt IntKind.i64.bits p.faults ||| BitVec.ofInt IntKind.i64.bits 4).toNat)])),[]) else none else bif decide (ag (!s.gyro) p.lost≥3) then bif p.mode==1&&(2==1&&true)||(p.mode==2&&(2==1&&true)||(p.mode==2&&(2==4&&true)||(p.mode==2&&(2==2&&true)||(p.mode==2&&(2==8&&true)||false)))) then some (AV.val (Value.agg (List.toArray [I_ 1,I_ 0,I_ 0,I_ 0,I_ 0,I_ (IntKind.i64.wrap ↑(BitVec.ofInt IntKind.i64.bits p.faults ||| BitVec.ofInt IntKind.i64.bits 2).toNat)])),[]) else none else bif s.pair then bif bif true then s.lit else false then bif bif true then decide (ag (!s.pass) p.miss≥5) else false then bif p.mode==1&&(8==1&&true)||(p.mode==2&&(8==1&&true)||(p.mode==2&&(8==4&&true)||(p.mode==2&&(8==2&&true)||(p.mode==2&&(8==8&&true)||false)))) then some (AV.val (Value.agg (List.toArray [I_ 1,I_ 0,I_ 0,I_ 0,I_ 0,I_ (IntKind.i64.wrap ↑(BitVec.ofInt IntKind.i64.bits p.faults ||| BitVec.ofInt IntKind.i64.bits 8).toNat)])),[]) else none else bif p.mode==0 then bif s.gyro then bif decide (ag (bif true then s.slow else false) p.calm≥3) then some (AV.val (Value.agg (List.toArray [I_ 1,I_ 0,I_ 0,I_ 0,I_ 0,I_ p.faults])),[]) else some (AV.val (Value.agg (List.toArray [I_ p.mode,I_ (ag (bif true then s.slow else false) p.calm),I_ p.good,I_ (ag (!s.pass) p.miss),I_ (ag (!s.gyro) p.lost),I_ p.faults])),[]) else bif decide (ag false p.calm≥3) then some (AV.val (Value.agg (List.toArray [I_ 1,I_ 0,I_ 0,I_ 0,I_ 0,I_ p.faults])),[]) else some (AV.val (Value.agg (List.toArray [I_ p.mode,I_ (ag false p.calm),I_ p.good,I_ (ag (!s.pass) p.miss),I_ (ag (!s.gyro) p.lost),I_ p.faults])),[]) else bif p.mode==1 then bif s.gyro then bif bif true then !s.slow else false then some (AV.val (Value.agg (List.toArray [I_ 0,I_ 0,I_ 0,I_ 0,I_ 0,I_ p.faults])),[]) else bif s.gyro then bif bif true then s.pair else false then bif decide (ag (bif true then s.lit else false) p.good≥2) then some (AV.val (Value.agg (List.toArray [I_ 2,I_ 0,I_ 0,I_ 0,I_ 0,I_ p.faults])),[]) else some (AV.val (Value.agg (List.toArray [I_ p.mode,I_ p.calm,I_ (ag (bif true then s.lit else false) p.good),I_ (ag (!s.pass) p.miss),I_ (ag (!s.gyro) p.lost),I_ p.faults])),[]) else bif decide (ag false p.good≥2) then some (AV.val (Value.agg (List.toArray [I_ 2,I_ 0,I_ 0,I_ 0,I_ 0,I_ p.faults])),[]) else some (AV.val (Value.agg (List.toArray [I_ p.mode,I_ p.calm,I_ (ag false p.good),I_ (ag (!s.pass) p.miss),I_ (ag (!s.gyro) p.lost),I_ p.faults])),[]) else bif decide (ag false p.good≥2) then some (AV.val (Value.agg (List.toArray [I_ 2,I_ 0,I_ 0,I_ 0,I_ 0,I_ p.faults])),[]) else some (AV.val (Value.agg (List.toArray [I_ p.mode,I_ p.calm,I_ (ag false p.good),I_ (ag (!s.pass) p.miss),I_ (ag (!s.gyro) p.lost),I_ p.faults])),[]) else bif s.gyro then bif bif true then s.pair else false then bif decide (ag (bif true then s.lit else false) p.good≥2) then some (AV.val (Value.agg (List.toArray [I_ 2,I_ 0,I_ 0,I_ 0,I_ 0,I_ p.faults])),[]) else some (AV.val (Value.agg (List.toArray [I_ p.mode,I_ p.calm,I_ (ag (bif true then s.lit else false) p.good),I_ (ag (!s.pass) p.miss),I_ (ag (!s.gyro) p.lost),I_ p.faults])),[]) else bif decide (ag false p.good≥2) then some (AV.val (Value.agg (List.toArray [I_ 2,I_ 0,I_ 0,I_ 0,I_ 0,I_ p.faults])),[]) else some (AV.val (Value.agg (List.toArray [I_ p.mode,I_ p.calm,I_ (ag false p.good),I_ (ag (!s.pass) p.miss),I_ (ag (!s.gyro) p.lost),I_ p.faults])),[]) else bif decide (ag false p.good≥2) then some (AV.val (Value.agg (List.toArray [I_ 2,I_ 0,I_ 0,I_ 0,I_ 0,I_ p.faults])),[]) else some (AV.val (Value.agg (List.toArray [I_ p.mode,I_ p.calm,I_ (ag false p.good),I_ (ag (!s.pass) p.miss),I_ (ag (!s.gyro) p.lost),I_ p.faults])),[]) else some (AV.val (Value.agg (List.toArray [I_ p.mode,I_ p.calm,I_ p.good,I_ (ag (!s.pass) p.miss),I_ (ag (!s.gyro) p.lost),I_ p.faults])),[]) else bif p.mode==0 then bif s.gyro then bif decide (ag (bif true then s.slow else false) p.calm≥3) then some (AV.val (Value.agg (List.toArray [I_ 1,I_ 0,I_ 0,I_ 0,I_ 0,I_ p.faults])),[]) else some (AV.val (Value.agg (List.toArray [I_ p.mode,I_ (ag (bif true then s.slow else false) p.calm),I_ p.good,I_ p.miss,I_ (ag (!s.gyro) p.lost),I_ p.faults])),[]) else bif decide (ag false p.calm≥3) then some (AV.val (Value.agg (List.toArray [I_ 1,I_ 0,I_ 0,I_ 0,I_ 0,I_ p.faults])),[]) else some (AV.val (Value.agg (List.toArray [I_ p.mode,I_ (ag false p.calm),I_ p.good,I_ p.miss,I_ (ag (!s.gyro) p.lost),I_ p.faults])),[]) else bif p.mode==1 then bif s.gyro then bif bif true then !s.slow else false then some (AV.val (Value.agg (List.toArray [I_ 0,I_ 0,I_ 0,I_ 0,I_ 0,I_ p.faults])),[]) else bif s.gyro then bif bif true then s.pair else false then bif decide (ag (bif true then s.lit else false) p.good≥2) then some (AV.val (Value.agg (List.toArray [I_ 2,I_ 0,I_ 0,I_ 0,I_ 0,I_ p.faults])),[]) else some (AV.val (Value.agg (List.toArray [I_ p.mode,I_ p.calm,I_ (ag (bif true then s.lit else false) p.good),I_ p.miss,I_ (ag (!s.gyro) p.lost),I_ p.faults])),[]) else bif decide (ag false p.good≥2) then some (AV.val (Value.agg (List.toArray [I_ 2,I_ 0,I_ 0,I_ 0,I_ 0,I_ p.faults])),[]) else some (AV.val (Value.agg (List.toArray [I_ p.mode,I_ p.calm,I_ (ag false p.good),I_ p.miss,I_ (ag (!s.gyro) p.lost),I_ p.faults])),[]) else bif decide (ag false p.good≥2) then some (AV.val (Value.agg (List.toArray [I_ 2,I_ 0,I_ 0,I_ 0,I_ 0,I_ p.faults])),[]) else some (AV.val (Value.agg (List.toArray [I_ p.mode,I_ p.calm,I_ (ag false p.good),I_ p.miss,I_ (ag (!s.gyro) p.lost),I_ p.faults])),[]) else bif s.gyro then bif bif true then s.pair else false then bif decide (ag (bif true then s.lit else false) p.good≥2) then some (AV.val (Value.agg (List.toArray [I_ 2,I_ 0,I_ 0,I_ 0,I_ 0,I_ p.faults])),[]) else some (AV.val (Value.agg (List.toArray [I_ p.mode,I_ p.calm,I_ (ag (bif true then s.lit else false) p.good),I_ p.miss,I_ (ag (!s.gyro) p.lost),I_ p.faults])),[]) else bif decide (ag false p.good≥2) then some (AV.val (Value.agg (List.toArray [I_ 2,I_ 0,I_ 0,I_ 0,I_ 0,I_ p.faults])),[]) else some (AV.val (Value.agg (List.toArray [I_ p.mode,I_ p.calm,I_ (ag false p.good),I_ p.miss,I_ (ag (!s.gyro) p.lost),I_ p.faults])),[]) else bif decide (ag false p.good≥2) then some (AV.val (Value.agg (List.toArray [I_ 2,I_ 0,I_ 0,I_ 0,I_ 0,I_ p.faults])),[]) else some (AV.val (Value.agg (List.toArray [I_ p.mode,I_ p.calm,I_ (ag false p.good),I_ p.miss,I_ (ag (!s.gyro) p.lost),I_ p.faults])),[]) else some (AV.val (Value.agg (List.toArray [I_ p.mode,I_ p.calm,I_ p.good,I_ p.miss,I_ (ag (!s.gyro) p.lost),I_ p.faults])),[]) else bif p.mode==0 then bif s.gyro then bif decide (ag (bif true then s.slow else false) p.calm≥3) then some (AV.val (Value.agg (List.toArray [I_ 1,I_ 0,I_ 0,I_ 0,I_ 0,I_ p.faults])),[]) else some (AV.val (Value.agg (List.toArray [I_ p.mode,I_ (ag (bif true then s.slow else false) p.calm),I_ p.good,I_ p.miss,I_ (ag (!s.gyro) p.lost),I_ p.faults])),[]) else bif decide (ag false p.calm≥3) then some (AV.val (Value.agg (List.toArray [I_ 1,I_ 0,I_ 0,I_ 0,I_ 0,I_ p.faults])),[]) else some (AV.val (Value.agg (List.toArray [I_ p.mode,I_ (ag false p.calm),I_ p.good,I_ p.miss,I_ (ag (!s.gyro) p.lost),I_ p.faults])),[]) else bif p.mode==1 then bif s.gyro then bif bif true then !s.slow else false then some (AV.val (Value.agg (List.toArray [I_ 0,I_ 0,I_ 0,I_ 0,I_ 0,I_ p.faults])),[]) else bif s.gyro then bif bif true then s.pair else false then bif decide (ag (bif true then s.lit else false) p.good≥2) then some (AV.val (Value.agg (List.toArray [I_ 2,I_ 0,I_ 0,I_ 0,I_ 0,I_ p.faults])),[]) else some (AV.val (Value.agg (List.toArray [I_ p.mode,I_ p.calm,I_ (ag (bif true then s.lit else false) p.good),I_ p.miss,I_ (ag (!s.gyro) p.lost),I_ p.faults])),[]) else bif decide (ag false p.good≥2) then some (AV.val (Value.agg (List.toArray [I_ 2,I_ 0,I_ 0,I_ 0,I_ 0,I_ p.faults])),[]) else some (AV.val (Value.agg (List.toArray [I_ p.mode,I_ p.calm,I_ (ag false p.good),I_ p.miss,I_ (ag (!s.gyro) p.lost),I_ p.faults])),[]) else bif decide (ag false p.good≥2) then some (AV.val (Value.agg (List.toArray [I_ 2,I_ 0,I_ 0,I_ 0,I_ 0,I_ p.faults])),[]) else some (AV.val (Value.agg (List.toArray [I_ p.mode,I_ p.calm,I_ (ag false p.good),I_ p.miss,I_ (ag (!s.gyro) p.lost),I_ p.faults])),[]) else bif s.gyro then bif bif true then s.pair else false then bif decide (ag (bif true then s.lit else false) p.good≥2) then some (AV.val (Value.agg (List.toArray [I_ 2,I_ 0,I_ 0,I_ 0,I_ 0,I_ p.faults])),[]) else some (AV.val (Value.agg (List.toArray [I_ p.mode,I_ p.calm,I_ (ag (bif true then s.lit else false) p.good),I_ p.miss,I_ (ag (!s.gyro) p.lost),I_ p.faults])),[]) else bif decide (ag false p.good≥2) then some (AV.val (Value.agg (List.toArray [I_ 2,I_ 0,I_ 0,I_ 0,I_ 0,I_ p.faults])),[]) else some (AV.val (Value.agg (List.toArray [I_ p.mode,I_ p.calm,I_ (ag false p.good),I_ p.miss,I_ (ag (!s.gyro) p.lost),I_ p.faults])),[]) else bif decide (ag false p.good≥2) then some (AV.val (Value.agg (List.toArray [I_ 2,I_ 0,I_ 0,I_ 0,I_ 0,I_ p.faults])),[]) else some (AV.val (Value.agg (List.toArray [I_ p.mode,I_ p.calm,I_ (ag false p.good),I_ p.miss,I_ (ag (!s.gyro) p.lost),I_ p.faults])),[]) else some (AV.val (Value.agg (List.toArray [I_ p.mode,I_ p.calm,I_ p.good,I_ p.miss,I_ (ag (!s.gyro) p.lost),I_ p.faults])),[]) else bif p.mode != 2 then bif p.mode==0 then bif s.gyro then bif decide (ag (bif true then s.slow else false) p.calm≥3) then some (AV.val (Value.agg (List.toArray [I_ 1,I_ 0,I_ 0,I_ 0,I_ 0,I_ p.faults])),[]) else some (AV.val (Value.agg (List.toArray [I_ p.mode,I_ (ag (bif true then s.slow else false) p.calm),I_ p.good,I_ p.miss,I_ p.lost,I_ p.faults])),[]) else bif decide (ag false p.calm≥3) then some (AV.val (Value.agg (List.toArray [I_ 1,I_ 0,I_ 0,I_ 0,I_ 0,I_ p.faults])),[]) else some (AV.val (Value.agg (List.toArray [I_ p.mode,I_ (ag false p.calm),I_ p.good,I_ p.miss,I_ p.lost,I_ p.faults])),[]) else bif p.mode==1 then bif s.gyro then bif bif true then !s.slow else false then some (AV.val (Value.agg (List.toArray [I_ 0,I_ 0,I_ 0,I_ 0,I_ 0,I_ p.faults])),[]) else bif s.gyro then bif bif true then s.pair else false then bif decide (ag (bif true then s.lit else false) p.good≥2) then some (AV.val (Value.agg (List.toArray [I_ 2,I_ 0,I_ 0,I_ 0,I_ 0,I_ p.faults])),[]) else some (AV.val (Value.agg (List.toArray [I_ p.mode,I_ p.calm,I_ (ag (bif true then s.lit else false) p.good),I_ p.miss,I_ p.lost,I_ p.faults])),[]) else bif decide (ag false p.good≥2) then some (AV.val (Value.agg (List.toArray [I_ 2,I_ 0,I_ 0,I_ 0,I_ 0,I_ p.faults])),[]) else some (AV.val (Value.agg (List.toArray [I_ p.mode,I_ p.calm,I_ (ag false p.good),I_ p.miss,I_ p.lost,I_ p.faults])),[]) else bif decide (ag false p.good≥2) then some (AV.val (Value.agg (List.toArray [I_ 2,I_ 0,I_ 0,I_ 0,I_ 0,I_ p.faults])),[]) else some (AV.val (Value.agg (List.toArray [I_ p.mode,I_ p.calm,I_ (ag false p.good),I_ p.miss,I_ p.lost,I_ p.faults])),[]) else bif s.gyro then bif bif true then s.pair else false then bif decide (ag (bif true then s.lit else false) p.good≥2) then some (AV.val (Value.agg (List.toArray [I_ 2,I_ 0,I_ 0,I_ 0,I_ 0,I_ p.faults])),[]) else some (AV.val (Value.agg (List.toArray [I_ p.mode,I_ p.calm,I_ (ag (bif true then s.lit else false) p.good),I_ p.miss,I_ p.lost,I_ p.faults])),[]) else bif decide (ag false p.good≥2) then some (AV.val (Value.agg (List.toArray [I_ 2,I_ 0,I_ 0,I_ 0,I_ 0,I_ p.faults])),[]) else some (AV.val (Value.agg (List.toArray [I_ p.mode,I_ p.calm,I_ (ag false p.good),I_ p.miss,I_ p.lost,I_ p.faults])),[]) else bif decide (ag false p.good≥2) then some (AV.val (Value.agg (List.toArray [I_ 2,I_ 0,I_ 0,I_ 0,I_ 0,I_ p.faults])),[]) else some (AV.val (Value.agg (List.toArray [I_ p.mode,I_ p.calm,I_ (ag false p.good),I_ p.miss,I_ p.lost,I_ p.faults])),[]) else some (AV.val (Value.agg (List.toArray [I_ p.mode,I_ p.calm,I_ p.good,I_ p.miss,I_ p.lost,I_ p.faults])),[]) else bif s.bad then bif p.mode==1&&(4==1&&true)||(p.mode==2&&(4==1&&true)||(p.mode==2&&(4==4&&true)||(p.mode==2&&(4==2&&true)||(p.mode==2&&(4==8&&true)||false)))) then some (AV.val (Value.agg (List.toArray [I_ 1,I_ 0,I_ 0,I_ 0,I_ 0,I_ (IntKind.i64.wrap ↑(BitVec.ofInt IntKind.i64.bits p.faults ||| BitVec.ofInt IntKind.i64.bits 4).toNat)])),[]) else none else bif decide (ag (!s.gyro) p.lost≥3) then bif p.mode==1&&(2==1&&true)||(p.mode==2&&(2==1&&true)||(p.mode==2&&(2==4&&true)||(p.mode==2&&(2==2&&true)||(p.mode==2&&(2==8&&true)||false)))) then some (AV.val (Value.agg (List.toArray [I_ 1,I_ 0,I_ 0,I_ 0,I_ 0,I_ (IntKind.i64.wrap ↑(BitVec.ofInt IntKind.i64.bits p.faults ||| BitVec.ofInt IntKind.i64.bits 2).toNat)])),[]) else none else bif s.pair then bif bif true then s.lit else false then bif bif true then decide (ag (!s.pass) p.miss≥5) else false then bif p.mode==1&&(8==1&&true)||(p.mode==2&&(8==1&&true)||(p.mode==2&&(8==4&&true)||(p.mode==2&&(8==2&&true)||(p.mode==2&&(8==8&&true)||false)))) then some (AV.val (Value.agg (List.toArray [I_ 1,I_ 0,I_ 0,I_ 0,I_ 0,I_ (IntKind.i64.wrap ↑(BitVec.ofInt IntKind.i64.bits p.faults ||| BitVec.ofInt IntKind.i64.bits 8).toNat)])),[]) else none else bif p.mode==0 then bif s.gyro then bif decide (ag (bif true then s.slow else false) p.calm≥3) then some (AV.val (Value.agg (List.toArray [I_ 1,I_ 0,I_ 0,I_ 0,I_ 0,I_ p.faults])),[]) else some (AV.val (Value.agg (List.toArray [I_ p.mode,I_ (ag (bif true then s.slow else false) p.calm),I_ p.good,I_ (ag (!s.pass) p.miss),I_ (ag (!s.gyro) p.lost),I_ p.faults])),[]) else bif decide (ag false p.calm≥3) then some (AV.val (Value.agg (List.toArray [I_ 1,I_ 0,I_ 0,I_ 0,I_ 0,I_ p.faults])),[]) else some (AV.val (Value.agg (List.toArray [I_ p.mode,I_ (ag false p.calm),I_ p.good,I_ (ag (!s.pass) p.miss),I_ (ag (!s.gyro) p.lost),I_ p.faults])),[]) else bif p.mode==1 then bif s.gyro then bif bif true then !s.slow else false then some (AV.val (Value.agg (List.toArray [I_ 0,I_ 0,I_ 0,I_ 0,I_ 0,I_ p.faults])),[]) else bif s.gyro then bif bif true then s.pair else false then bif decide (ag (bif true then s.lit else false) p.good≥2) then some (AV.val (Value.agg (List.toArray [I_ 2,I_ 0,I_ 0,I_ 0,I_ 0,I_ p.faults])),[]) else some (AV.val (Value.agg (List.toArray [I_ p.mode,I_ p.calm,I_ (ag (bif true then s.lit else false) p.good),I_ (ag (!s.pass) p.miss),I_ (ag (!s.gyro) p.lost),I_ p.faults])),[]) else bif decide (ag false p.good≥2) then some (AV.val (Value.agg (List.toArray [I_ 2,I_ 0,I_ 0,I_ 0,I_ 0,I_ p.faults])),[]) else some (AV.val (Value.agg (List.toArray [I_ p.mode,I_ p.calm,I_ (ag false p.good),I_ (ag (!s.pass) p.miss),I_ (ag (!s.gyro) p.lost),I_ p.faults])),[]) else bif decide (ag false p.good≥2) then some (AV.val (Value.agg (List.toArray [I_ 2,I_ 0,I_ 0,I_ 0,I_ 0,I_ p.faults])),[]) else some (AV.val (Value.agg (List.toArray [I_ p.mode,I_ p.calm,I_ (ag false p.good),I_ (ag (!s.pass) p.miss),I_ (ag (!s.gyro) p.lost),I_ p.faults])),[]) else bif s.gyro then bif bif true then s.pair else false then bif decide (ag (bif true then s.lit else false) p.good≥2) then some (AV.val (Value.agg (List.toArray [I_ 2,I_ 0,I_ 0,I_ 0,I_ 0,I_ p.faults])),[]) else some (AV.val (Value.agg (List.toArray [I_ p.mode,I_ p.calm,I_ (ag (bif true then s.lit else false) p.good),I_ (ag (!s.pass) p.miss),I_ (ag (!s.gyro) p.lost),I_ p.faults])),[]) else bif decide (ag false p.good≥2) then some (AV.val (Value.agg (List.toArray [I_ 2,I_ 0,I_ 0,I_ 0,I_ 0,I_ p.faults])),[]) else some (AV.val (Value.agg (List.toArray [I_ p.mode,I_ p.calm,I_ (ag false p.good),I_ (ag (!s.pass) p.miss),I_ (ag (!s.gyro) p.lost),I_ p.faults])),[]) else bif decide (ag false p.good≥2) then some (AV.val (Value.agg (List.toArray [I_ 2,I_ 0,I_ 0,I_ 0,I_ 0,I_ p.faults])),[]) else some (AV.val (Value.agg (List.toArray [I_ p.mode,I_ p.calm,I_ (ag false p.good),I_ (ag (!s.pass) p.miss),I_ (ag (!s.gyro) p.lost),I_ p.faults])),[]) else some (AV.val (Value.agg (List.toArray [I_ p.mode,I_ p.calm,I_ p.good,I_ (ag (!s.pass) p.miss),I_ (ag (!s.gyro) p.lost),I_ p.faults])),[]) else bif p.mode==0 then bif s.gyro then bif decide (ag (bif true then s.slow else false) p.calm≥3) then some (AV.val (Value.agg (List.toArray [I_ 1,I_ 0,I_ 0,I_ 0,I_ 0,I_ p.faults])),[]) else some (AV.val (Value.agg (List.toArray [I_ p.mode,I_ (ag (bif true then s.slow else false) p.calm),I_ p.good,I_ p.miss,I_ (ag (!s.gyro) p.lost),I_ p.faults])),[]) else bif decide (ag false p.calm≥3) then some (AV.val (Value.agg (List.toArray [I_ 1,I_ 0,I_ 0,I_ 0,I_ 0,I_ p.faults])),[]) else some (AV.val (Value.agg (List.toArray [I_ p.mode,I_ (ag false p.calm),I_ p.good,I_ p.miss,I_ (ag (!s.gyro) p.lost),I_ p.faults])),[]) else bif p.mode==1 then bif s.gyro then bif bif true then !s.slow else false then some (AV.val (Value.agg (List.toArray [I_ 0,I_ 0,I_ 0,I_ 0,I_ 0,I_ p.faults])),[]) else bif s.gyro then bif bif true then s.pair else false then bif decide (ag (bif true then s.lit else false) p.good≥2) then some (AV.val (Value.agg (List.toArray [I_ 2,I_ 0,I_ 0,I_ 0,I_ 0,I_ p.faults])),[]) else some (AV.val (Value.agg (List.toArray [I_ p.mode,I_ p.calm,I_ (ag (bif true then s.lit else false) p.good),I_ p.miss,I_ (ag (!s.gyro) p.lost),I_ p.faults])),[]) else bif decide (ag false p.good≥2) then some (AV.val (Value.agg (List.toArray [I_ 2,I_ 0,I_ 0,I_ 0,I_ 0,I_ p.faults])),[]) else some (AV.val (Value.agg (List.toArray [I_ p.mode,I_ p.calm,I_ (ag false p.good),I_ p.miss,I_ (ag (!s.gyro) p.lost),I_ p.faults])),[]) else bif decide (ag false p.good≥2) then some (AV.val (Value.agg (List.toArray [I_ 2,I_ 0,I_ 0,I_ 0,I_ 0,I_ p.faults])),[]) else some (AV.val (Value.agg (List.toArray [I_ p.mode,I_ p.calm,I_ (ag false p.good),I_ p.miss,I_ (ag (!s.gyro) p.lost),I_ p.faults])),[]) else bif s.gyro then bif bif true then s.pair else false then bif decide (ag (bif true then s.lit else false) p.good≥2) then some (AV.val (Value.agg (List.toArray [I_ 2,I_ 0,I_ 0,I_ 0,I_ 0,I_ p.faults])),[]) else some (AV.val (Value.agg (List.toArray [I_ p.mode,I_ p.calm,I_ (ag (bif true then s.lit else false) p.good),I_ p.miss,I_ (ag (!s.gyro) p.lost),I_ p.faults])),[]) else bif decide (ag false p.good≥2) then some (AV.val (Value.agg (List.toArray [I_ 2,I_ 0,I_ 0,I_ 0,I_ 0,I_ p.faults])),[]) else some (AV.val (Value.agg (List.toArray [I_ p.mode,I_ p.calm,I_ (ag false p.good),I_ p.miss,I_ (ag (!s.gyro) p.lost),I_ p.faults])),[]) else bif decide (ag false p.good≥2) then some (AV.val (Value.agg (List.toArray [I_ 2,I_ 0,I_ 0,I_ 0,I_ 0,I_ p.faults])),[]) else some (AV.val (Value.agg (List.toArray [I_ p.mode,I_ p.calm,I_ (ag false p.good),I_ p.miss,I_ (ag (!s.gyro) p.lost),I_ p.faults])),[]) else some (AV.val (Value.agg (List.toArray [I_ p.mode,I_ p.calm,I_ p.good,I_ p.miss,I_ (ag (!s.gyro) p.lost),I_ p.faults])),[]) else bif p.mode==0 then bif s.gyro then bif decide (ag (bif true then s.slow else false) p.calm≥3) then some (AV.val (Value.agg (List.toArray [I_ 1,I_ 0,I_ 0,I_ 0,I_ 0,I_ p.faults])),[]) else some (AV.val (Value.agg (List.toArray [I_ p.mode,I_ (ag (bif true then s.slow else false) p.calm),I_ p.good,I_ p.miss,I_ (ag (!s.gyro) p.lost),I_ p.faults])),[]) else bif decide (ag false p.calm≥3) then some (AV.val (Value.agg (List.toArray [I_ 1,I_ 0,I_ 0,I_ 0,I_ 0,I_ p.faults])),[]) else some (AV.val (Value.agg (List.toArray [I_ p.mode,I_ (ag false p.calm),I_ p.good,I_ p.miss,I_ (ag (!s.gyro) p.lost),I_ p.faults])),[]) else bif p.mode==1 then bif s.gyro then bif bif true then !s.slow else false then some (AV.val (Value.agg (List.toArray [I_ 0,I_ 0,I_ 0,I_ 0,I_ 0,I_ p.faults])),[]) else bif s.gyro then bif bif true then s.pair else false then bif decide (ag (bif true then s.lit else false) p.good≥2) then some (AV.val (Value.agg (List.toArray [I_ 2,I_ 0,I_ 0,I_ 0,I_ 0,I_ p.faults])),[]) else some (AV.val (Value.agg (List.toArray [I_ p.mode,I_ p.calm,I_ (ag (bif true then s.lit else false) p.good),I_ p.miss,I_ (ag (!s.gyro) p.lost),I_ p.faults])),[]) else bif decide (ag false p.good≥2) then some (AV.val (Value.agg (List.toArray [I_ 2,I_ 0,I_ 0,I_ 0,I_ 0,I_ p.faults])),[]) else some (AV.val (Value.agg (List.toArray [I_ p.mode,I_ p.calm,I_ (ag false p.good),I_ p.miss,I_ (ag (!s.gyro) p.lost),I_ p.faults])),[]) else bif decide (ag false p.good≥2) then some (AV.val (Value.agg (List.toArray [I_ 2,I_ 0,I_ 0,I_ 0,I_ 0,I_ p.faults])),[]) else some (AV.val (Value.agg (List.toArray [I_ p.mode,I_ p.calm,I_ (ag false p.good),I_ p.miss,I_ (ag (!s.gyro) p.lost),I_ p.faults])),[]) else bif s.gyro then bif bif true then s.pair else false then bif decide (ag (bif true then s.lit else false) p.good≥2) then some (AV.val (Value.agg (List.toArray [I_ 2,I_ 0,I_ 0,I_ 0,I_ 0,I_ p.faults])),[]) else some (AV.val (Value.agg (List.toArray [I_ p.mode,I_ p.calm,I_ (ag (bif true then s.lit else false) p.good),I_ p.miss,I_ (ag (!s.gyro) p.lost),I_ p.faults])),[]) else bif decide (ag false p.good≥2) then some (AV.val (Value.agg (List.toArray [I_ 2,I_ 0,I_ 0,I_ 0,I_ 0,I_ p.faults])),[]) else some (AV.val (Value.agg (List.toArray [I_ p.mode,I_ p.calm,I_ (ag false p.good),I_ p.miss,I_ (ag (!s.gyro) p.lost),I_ p.faults])),[]) else bif decide (ag false p.good≥2) then some (AV.val (Value.agg (List.toArray [I_ 2,I_ 0,I_ 0,I_ 0,I_ 0,I_ p.faults])),[]) else some (AV.val (Value.agg (List.toArray [I_ p.mode,I_ p.calm,I_ (ag false p.good),I_ p.miss,I_ (ag (!s.gyro) p.lost),I_ p.faults])),[]) else some (AV.val (Value.agg (List.toArray [I_ p.mode,I_ p.calm,I_ p.good,I_ p.miss,I_ (ag (!s.gyro) p.lost),I_ p.faults])),[])):=by kernel_rfl
theorem t18(ct:Int→Int)(p:Pl)(s:Sn):fnSum Tryz.prog {gam:=[(46,S0 fun (p:Int×Unit)=>ct p.1)],ways:=[(47,[46])]} [] 20 47 [.val (Cod.enc p),.val (Cod.enc s)] []=(bif s.gap then some (AV.val (Value.agg (List.toArray [I_ 1,I_ 0,I_ 0,I_ 0,I_ 0,I_ (IntKind.i64.wrap ↑(BitVec.ofInt IntKind.i64.bits p.faults ||| BitVec.ofInt IntKind.i64.bits 1).toNat)])),[]) else bif s.bad then some (AV.val (Value.agg (List.toArray [I_ 1,I_ 0,I_ 0,I_ 0,I_ 0,I_ (IntKind.i64.wrap ↑(BitVec.ofInt IntKind.i64.bits p.faults ||| BitVec.ofInt IntKind.i64.bits 4).toNat)])),[]) else bif decide ((bif s.gyro then 0 else ct p.lost)≥3) then some (AV.val (Value.agg (List.toArray [I_ 1,I_ 0,I_ 0,I_ 0,I_ 0,I_ (IntKind.i64.wrap ↑(BitVec.ofInt IntKind.i64.bits (bif s.gyro then p.faults else p.faults) ||| BitVec.ofInt IntKind.i64.bits 2).toNat)])),[]) else bif s.pair then bif bif true then s.lit else false then bif decide ((bif s.pass then 0 else (fun p ↦ ct p.fst) (bif s.gyro then p.miss else p.miss,()))≥5) then some (AV.val (Value.agg (List.toArray [I_ 1,I_ 0,I_ 0,I_ 0,I_ 0,I_ (IntKind.i64.wrap ↑(BitVec.ofInt IntKind.i64.bits (bif s.pass then bif s.gyro then p.faults else p.faults else bif s.gyro then p.faults else p.faults) ||| BitVec.ofInt IntKind.i64.bits 8).toNat)])),[]) else some (AV.val (Value.agg (List.toArray [I_ (bif s.pass then bif s.gyro then p.mode else p.mode else bif s.gyro then p.mode else p.mode),I_ (bif s.pass then bif s.gyro then p.calm else p.calm else bif s.gyro then p.calm else p.calm),I_ (bif s.pass then bif s.gyro then p.good else p.good else bif s.gyro then p.good else p.good),I_ (bif s.pass then 0 else (fun p ↦ ct p.fst) (bif s.gyro then p.miss else p.miss,())),I_ (bif s.pass then bif s.gyro then 0 else ct p.lost else bif s.gyro then 0 else ct p.lost),I_ (bif s.pass then bif s.gyro then p.faults else p.faults else bif s.gyro then p.faults else p.faults)])),[]) else some (AV.val (Value.agg (List.toArray [I_ (bif s.gyro then p.mode else p.mode),I_ (bif s.gyro then p.calm else p.calm),I_ (bif s.gyro then p.good else p.good),I_ (bif s.gyro then p.miss else p.miss),I_ (bif s.gyro then 0 else ct p.lost),I_ (bif s.gyro then p.faults else p.faults)])),[]) else some (AV.val (Value.agg (List.toArray [I_ (bif s.gyro then p.mode else p.mode),I_ (bif s.gyro then p.calm else p.calm),I_ (bif s.gyro then p.good else p.good),I_ (bif s.gyro then p.miss else p.miss),I_ (bif s.gyro then 0 else ct p.lost),I_ (bif s.gyro then p.faults else p.faults)])),[])):=by kernel_rfl
theorem t10(fi:Pl→Sn→Pl)(ct:Int→Int)(p:Pl)(s:Sn):fnSum Tryz.prog {gam:=[(46,S0 fun (p:Int×Unit)=>ct p.1),(47,S0 fun (p:Pl×Sn×Unit)=>fi p.1 p.2.1)],ways:=[(17,[46])]} [] 20 17 [.val (Cod.enc p),.val (Cod.enc s)] []=(bif s.order==1 then some (AV.val (Value.agg (List.toArray [I_ 3,I_ 0,I_ 0,I_ 0,I_ 0,I_ p.faults])),[]) else bif p.mode==3 then bif s.order==2 then some (AV.val (Value.agg (List.toArray [I_ 0,I_ 0,I_ 0,I_ 0,I_ 0,I_ 0])),[]) else some (AV.val (Value.agg (List.toArray [I_ p.mode,I_ p.calm,I_ p.good,I_ p.miss,I_ p.lost,I_ p.faults])),[]) else bif p.mode==0 then bif s.gyro then bif decide ((bif bif true then s.slow else false then (fun p ↦ ct p.fst) (p.calm,()) else 0)≥3) then some (AV.val (Value.agg (List.toArray [I_ 1,I_ 0,I_ 0,I_ 0,I_ 0,I_ (bif bif true then s.slow else false then p.faults else p.faults)])),[]) else some (AV.val (Value.agg (List.toArray [I_ (bif bif true then s.slow else false then p.mode else p.mode),I_ (bif bif true then s.slow else false then (fun p ↦ ct p.fst) (p.calm,()) else 0),I_ (bif bif true then s.slow else false then p.good else p.good),I_ (bif bif true then s.slow else false then p.miss else p.miss),I_ (bif bif true then s.slow else false then p.lost else p.lost),I_ (bif bif true then s.slow else false then p.faults else p.faults)])),[]) else some (AV.val (Value.agg (List.toArray [I_ (bif false then p.mode else p.mode),I_ (bif false then (fun p ↦ ct p.fst) (p.calm,()) else 0),I_ (bif false then p.good else p.good),I_ (bif false then p.miss else p.miss),I_ (bif false then p.lost else p.lost),I_ (bif false then p.faults else p.faults)])),[]) else bif p.mode==1 then bif s.gap then some (AV.val (Value.agg (List.toArray [I_ 1,I_ 0,I_ 0,I_ 0,I_ 0,I_ (IntKind.i64.wrap ↑(BitVec.ofInt IntKind.i64.bits p.faults ||| BitVec.ofInt IntKind.i64.bits 1).toNat)])),[]) else bif s.gyro then bif bif true then !s.slow else false then some (AV.val (Value.agg (List.toArray [I_ 0,I_ 0,I_ 0,I_ 0,I_ 0,I_ p.faults])),[]) else bif s.gyro then bif bif true then s.pair else false then bif decide ((bif bif true then s.lit else false then (fun p ↦ ct p.fst) (p.good,()) else 0)≥2) then some (AV.val (Value.agg (List.toArray [I_ 2,I_ 0,I_ 0,I_ 0,I_ 0,I_ (bif bif true then s.lit else false then p.faults else p.faults)])),[]) else some (AV.val (Value.agg (List.toArray [I_ (bif bif true then s.lit else false then p.mode else p.mode),I_ (bif bif true then s.lit else false then p.calm else p.calm),I_ (bif bif true then s.lit else false then (fun p ↦ ct p.fst) (p.good,()) else 0),I_ (bif bif true then s.lit else false then p.miss else p.miss),I_ (bif bif true then s.lit else false then p.lost else p.lost),I_ (bif bif true then s.lit else false then p.faults else p.faults)])),[]) else some (AV.val (Value.agg (List.toArray [I_ (bif false then p.mode else p.mode),I_ (bif false then p.calm else p.calm),I_ (bif false then (fun p ↦ ct p.fst) (p.good,()) else 0),I_ (bif false then p.miss else p.miss),I_ (bif false then p.lost else p.lost),I_ (bif false then p.faults else p.faults)])),[]) else some (AV.val (Value.agg (List.toArray [I_ (bif false then p.mode else p.mode),I_ (bif false then p.calm else p.calm),I_ (bif false then (fun p ↦ ct p.fst) (p.good,()) else 0),I_ (bif false then p.miss else p.miss),I_ (bif false then p.lost else p.lost),I_ (bif false then p.faults else p.faults)])),[]) else bif s.gyro then bif bif true then s.pair else false then bif decide ((bif bif true then s.lit else false then (fun p ↦ ct p.fst) (p.good,()) else 0)≥2) then some (AV.val (Value.agg (List.toArray [I_ 2,I_ 0,I_ 0,I_ 0,I_ 0,I_ (bif bif true then s.lit else false then p.faults else p.faults)])),[]) else some (AV.val (Value.agg (List.toArray [I_ (bif bif true then s.lit else false then p.mode else p.mode),I_ (bif bif true then s.lit else false then p.calm else p.calm),I_ (bif bif true then s.lit else false then (fun p ↦ ct p.fst) (p.good,()) else 0),I_ (bif bif true then s.lit else false then p.miss else p.miss),I_ (bif bif true then s.lit else false then p.lost else p.lost),I_ (bif bif true then s.lit else false then p.faults else p.faults)])),[]) else some (AV.val (Value.agg (List.toArray [I_ (bif false then p.mode else p.mode),I_ (bif false then p.calm else p.calm),I_ (bif false then (fun p ↦ ct p.fst) (p.good,()) else 0),I_ (bif false then p.miss else p.miss),I_ (bif false then p.lost else p.lost),I_ (bif false then p.faults else p.faults)])),[]) else some (AV.val (Value.agg (List.toArray [I_ (bif false then p.mode else p.mode),I_ (bif false then p.calm else p.calm),I_ (bif false then (fun p ↦ ct p.fst) (p.good,()) else 0),I_ (bif false then p.miss else p.miss),I_ (bif false then p.lost else p.lost),I_ (bif false then p.faults else p.faults)])),[]) else bif p.mode==2 then some (AV.val (Value.agg (List.toArray [I_ ((fun p ↦ fi p.fst p.snd.fst) (p,s,())).mode,I_ ((fun p ↦ fi p.fst p.snd.fst) (p,s,())).calm,I_ ((fun p ↦ fi p.fst p.snd.fst) (p,s,())).good,I_ ((fun p ↦ fi p.fst p.snd.fst) (p,s,())).miss,I_ ((fun p ↦ fi p.fst p.snd.fst) (p,s,())).lost,I_ ((fun p ↦ fi p.fst p.snd.fst) (p,s,())).faults])),[]) else some (AV.val (Value.agg (List.toArray [I_ 3,I_ 0,I_ 0,I_ 0,I_ 0,I_ p.faults])),[])):=by kernel_rfl
theorem orV_eq(a b:Int):orV a b=IntKind.i64.wrap ↑(BitVec.ofInt IntKind.i64.bits a ||| BitVec.ofInt IntKind.i64.bits b).toNat:=rfl
theorem z2:decide ((0:Int)≥2)=false:=rfl
theorem z3:decide ((0:Int)≥3)=false:=rfl
theorem z5:decide ((0:Int)≥5)=false:=rfl
theorem next18(p:Pl)(s:Sn):fnSum Tryz.prog {gam:=[(46,S0 fun (p:Int×Unit)=>cntV p.1)],ways:=[(47,[46])]} [] 20 47 [.val (Cod.enc p),.val (Cod.enc s)] []=some (.val (Cod.enc (fineV p s)),[]):=by
 rw[t18]
 obtain ⟨gap,gyro,slow,pair,lit,bad,pass,order⟩:=s
 unfold fineV
 dsimp only
 cases gap<;>cases bad<;>cases gyro<;>cases pair<;>cases lit<;>cases pass<;>simp only[enc_cond,Int.reduceBEq,Int.reduceBNe,Bool.or_true,Bool.or_false,Bool.true_or,Bool.false_or,z2,z3,z5,agV,toV,← orV_eq,cond_true,cond_false,Bool.and_true,Bool.and_false,Bool.true_and,Bool.false_and]<;>rfl
theorem ok18:SumOk Tryz.prog 47 (S0 fun (p:Pl×Sn×Unit)=>fineV p.1 p.2.1):=S0_ok (E:={gam:=[(46,S0 fun (p:Int×Unit)=>cntV p.1)],ways:=[(47,[46])]}) (.cons ok17 .nil) 20 fun a=>next18 a.1 a.2.1
theorem next10(p:Pl)(s:Sn):fnSum Tryz.prog {gam:=[(46,S0 fun (p:Int×Unit)=>cntV p.1),(47,S0 fun (p:Pl×Sn×Unit)=>fineV p.1 p.2.1)],ways:=[(17,[46])]} [] 20 17 [.val (Cod.enc p),.val (Cod.enc s)] []=some (.val (Cod.enc (nextV p s)),[]):=by
 rw[t10]
 unfold nextV
 cases s.order==1
 ·cases p.mode==3
  ·cases p.mode==0
   ·cases p.mode==1
    ·cases p.mode==2<;>rfl
    ·obtain ⟨gap,gyro,slow,pair,lit,bad,pass,order⟩:=s
     dsimp only
     cases gap<;>cases gyro<;>cases slow<;>cases pair<;>cases lit<;>simp only[enc_cond,Int.reduceBEq,Int.reduceBNe,Bool.or_true,Bool.or_false,Bool.true_or,Bool.false_or,z2,z3,z5,agV,toV,← orV_eq,cond_true,cond_false,Bool.and_true,Bool.and_false,Bool.true_and,Bool.false_and,Bool.not_true,Bool.not_false]<;>rfl
   ·obtain ⟨gap,gyro,slow,pair,lit,bad,pass,order⟩:=s
    dsimp only
    cases gyro<;>cases slow<;>simp only[enc_cond,Int.reduceBEq,Int.reduceBNe,Bool.or_true,Bool.or_false,Bool.true_or,Bool.false_or,z2,z3,z5,agV,toV,← orV_eq,cond_true,cond_false,Bool.and_true,Bool.and_false,Bool.true_and,Bool.false_and]<;>rfl
  ·cases s.order==2<;>rfl
 ·rfl
theorem ok10:SumOk Tryz.prog 17 (S0 fun (p:Pl×Sn×Unit)=>nextV p.1 p.2.1):=S0_ok (E:={gam:=[(46,S0 fun (p:Int×Unit)=>cntV p.1),(47,S0 fun (p:Pl×Sn×Unit)=>fineV p.1 p.2.1)],ways:=[(17,[46])]}) (.cons ok17 (.cons ok18 .nil)) 20 fun a=>next10 a.1 a.2.1
theorem mode_cases(m:Int):(decide (m<0)=true∧(m==0)=false∧(m==1)=false∧(m==2)=false∧(m==3)=false)∨(decide (m<0)=false∧decide (m>3)=true∧(m==0)=false∧(m==1)=false∧(m==2)=false∧(m==3)=false) ∨
  m=0∨m=1∨m=2∨m=3:=by
 by_cases h:m<0
 ·exact .inl ⟨decide_eq_true h,beq_eq_false_iff_ne.2 (by omega),beq_eq_false_iff_ne.2 (by omega),beq_eq_false_iff_ne.2 (by omega),beq_eq_false_iff_ne.2 (by omega)⟩
 ·by_cases h':m>3
  ·exact .inr (.inl ⟨decide_eq_false h,decide_eq_true h',beq_eq_false_iff_ne.2 (by omega),beq_eq_false_iff_ne.2 (by omega),beq_eq_false_iff_ne.2 (by omega),beq_eq_false_iff_ne.2 (by omega)⟩)
  ·omega
theorem next9(p:Pl)(s:Sn):fnSum Tryz.prog {gam:=[(225,leadsS),(226,agS agV)],loud:=[225]} [] 20 173 [.val (Cod.enc p),.val (Cod.enc s)] []=some (.val (Cod.enc (nextV p s)),[]):=by
 rw[t9]
 unfold nextV
 cases s.order==1
 ·obtain ⟨mode,calm,good,miss,lost,faults⟩:=p
  dsimp only
  rcases mode_cases mode with ⟨h1,h2,h3,h4,h5⟩ | ⟨h1,h2,h3,h4,h5,h6⟩ | rfl | rfl | rfl | rfl
  ·rw[h1,h2,h3,h4,h5];rfl
  ·rw[h1,h2,h3,h4,h5,h6];rfl
  ·obtain ⟨gap,gyro,slow,pair,lit,bad,pass,order⟩:=s
   dsimp only
   cases gap<;>cases gyro<;>cases slow<;>simp only[enc_cond,Int.reduceBEq,Int.reduceBNe,Bool.or_true,Bool.or_false,Bool.true_or,Bool.false_or,z2,z3,z5,agV,toV,← orV_eq,cond_true,cond_false,Bool.and_true,Bool.and_false,Bool.true_and,Bool.false_and]<;>rfl
  ·obtain ⟨gap,gyro,slow,pair,lit,bad,pass,order⟩:=s
   dsimp only
   cases gap<;>cases gyro<;>cases slow<;>cases pair<;>cases lit<;>simp only[enc_cond,Int.reduceBEq,Int.reduceBNe,Bool.or_true,Bool.or_false,Bool.true_or,Bool.false_or,z2,z3,z5,agV,toV,← orV_eq,cond_true,cond_false,Bool.and_true,Bool.and_false,Bool.true_and,Bool.false_and,Bool.not_true,Bool.not_false]<;>rfl
  ·obtain ⟨gap,gyro,slow,pair,lit,bad,pass,order⟩:=s
   dsimp only
   unfold fineV
   dsimp only
   cases gap<;>cases bad<;>cases gyro<;>cases pair<;>cases lit<;>cases pass<;>simp only[enc_cond,Int.reduceBEq,Int.reduceBNe,Bool.or_true,Bool.or_false,Bool.true_or,Bool.false_or,z2,z3,z5,agV,toV,← orV_eq,cond_true,cond_false,Bool.and_true,Bool.and_false,Bool.true_and,Bool.false_and,Bool.not_true,Bool.not_false]<;>rfl
  ·cases s.order==2<;>rfl
 ·rfl
theorem ok9:SumOk Tryz.prog 173 (S0 fun (p:Pl×Sn×Unit)=>nextV p.1 p.2.1):=S0_ok (E:={gam:=[(225,leadsS),(226,agS agV)],loud:=[225]}) (.cons leads_ok (.cons ok15 .nil)) 20 fun a=>next9 a.1 a.2.1
end Go.Ab
