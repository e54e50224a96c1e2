/- A part of the proofs: lemmas, no statement of their own; no condition. -/
import Derived.Test.YtoocjipllmkjcaaGreatGAbM
import Derived.Test.YtoocjipllmkjcaaGreatGFrK
import Derived.Test.YtoocjipllmkjcaaGreatGMoL
import Derived.Test.YtoocjipllmkjcaaGreatGTrB
import Derived.Test.YtoocjipllmkjcaaGreatGMtJ
import Derived.Laws.Strings
import Derived.Laws.Concat
import Derived.Test.YtoocjipllmkjcaaGreatGFuC0
import Derived.Lib.Bytealg
import Derived.Laws.Externs
set_option linter.unusedSimpArgs false
namespace Go.Ab
open Go Go.Proofs
def Dr.zero:Dr:=⟨false,0,V3.zero,V3.zero⟩
def rate1(o:Ops)(t b l r:Int)(f:Bool):Int×Bool :=
 let s:=o.sub f b l
 let p:=o.part s.2 s.1 1000 t
 let q:=o.sub p.2 p.1 r
 let k:=o.part q.2 q.1 t (IntKind.i64.wrap (t+2000))
 o.add k.2 r k.1
def rates(o:Ops)(t:Int)(d:Dr)(u:V3)(f:Bool):V3×Bool:=each3 f (rate1 o t u.x d.last.x d.rate.x) (rate1 o t u.y d.last.y d.rate.y) (rate1 o t u.z d.last.z d.rate.z)
def last3(o:Ops)(u:V3)(f:Bool):V3×Bool:=each3 f (fun b=>o.add b u.x 0) (fun b=>o.add b u.y 0) (fun b=>o.add b u.z 0)
def doneD(e:TypeId)(d:Dr)(f:Bool):Option (AV×List Con):=bif f then sayS e Dr.zero f else sayS e d f
where sayS (e:TypeId) (d:Dr) (f:Bool):Option (AV×List Con):=some (.val (Cod.enc d),row e f)
theorem step58(o:Ops)(bt:Int×Int×Unit→Two Int Bool)(va:Bool→V3×V3×Unit→V3×Bool)(b:Bool)(d:Dr)(u:V3)(tk:Int) :
  fnSum Tryz.prog {gam:=(167,S0 bt) :: (146,S 57 va) :: gamN o} [] 20 89 [.ptr 0 0,.val (Cod.enc d),.val (Cod.enc u),.val (.int .i64 tk)] (row 57 b) =
   let l:=va b (u,V3.zero,())
   let t:=bt (d.tick,tk,())
   bif t.b then bif d.on then doneD 57 ⟨true,tk,l.1,(rates o t.a d u l.2).1⟩ (rates o t.a d u l.2).2 else doneD 57 ⟨true,tk,l.1,V3.zero⟩ l.2 else doneD 57 ⟨true,tk,l.1,V3.zero⟩ l.2:=by kernel_rfl
theorem betw133(s t:Int):fnSum Tryz.prog {gam:=[]} [] 20 167 [.val (.int .i64 s),.val (.int .i64 t)] [] =
  bif decide (t<s) then some (.val (Cod.enc (Two.mk (0:Int) false)),[]) else
   let d:=IntKind.u64.wrap (IntKind.u64.wrap t-IntKind.u64.wrap s)
   bif decide (d≥10) then some (.val (Cod.enc (Two.mk (IntKind.i64.wrap d) (decide (d≤10000)))),[]) else some (.val (Cod.enc (Two.mk (IntKind.i64.wrap d) false)),[]):=by kernel_rfl
end Go.Ab
namespace Go.Ab
open Go
def i64?(x:Int):Bool:=decide (-9223372036854775808≤x∧x<9223372036854775808)
end Go.Ab
namespace Go.Ab
open Go Go.Proofs
def gapT(tk dt:Int):Int:=if 10≤tk-dt∧tk-dt≤10000 then tk-dt else 0
def btV(p:Int×Int×Unit):Two Int Bool :=
 bif decide (p.2.1<p.1) then ⟨0,false⟩ else ⟨IntKind.i64.wrap (IntKind.u64.wrap (IntKind.u64.wrap p.2.1-IntKind.u64.wrap p.1)),
  bif decide (IntKind.u64.wrap (IntKind.u64.wrap p.2.1-IntKind.u64.wrap p.1)≥10) then decide (IntKind.u64.wrap (IntKind.u64.wrap p.2.1-IntKind.u64.wrap p.1)≤10000) else false⟩
theorem ok133:SumOk Tryz.prog 167 (S0 btV):=S0_ok (E:={gam:=[]}) GamOk.nil 20 fun a=>by
 refine (betw133 a.1 a.2.1).trans ?_
 unfold btV
 dsimp only
 generalize IntKind.u64.wrap (IntKind.u64.wrap a.2.1-IntKind.u64.wrap a.1)=D
 cases decide (a.2.1<a.1)<;>cases decide (D≥10)<;>rfl
theorem btV_eq{s t:Int}(hs:i64? s=true)(ht:i64? t=true):((btV (s,t,())).b=true→(btV (s,t,())).a=gapT t s∧gapT t s≠0)∧((btV (s,t,())).b=false→gapT t s=0):=by
 simp only[i64?,decide_eq_true_eq]at hs ht
 unfold btV gapT
 dsimp only
 by_cases h:t<s
 ·simp only[h,decide_true,cond_true]
  refine ⟨fun h=>absurd h (by simp),fun _=>?_⟩
  rw[if_neg (by omega)]
 ·have e:IntKind.u64.wrap (IntKind.u64.wrap t-IntKind.u64.wrap s)=t-s:=by simp only[wrap_u64];omega
  rw[e]
  simp only[h,decide_false,cond_false]
  by_cases h1:t-s≥10
  ·by_cases h2:t-s≤10000
   ·simp only[h1,h2,decide_true,cond_true]
    refine ⟨fun _=>?_,fun h=>absurd h (by simp)⟩
    rw[wrap_i64_id (z:=t-s) (by omega) (by omega),if_pos ⟨trivial,trivial⟩]
    exact ⟨rfl,by omega⟩
   ·simp only[h1,h2,decide_true,decide_false,cond_true]
    refine ⟨fun h=>absurd h (by simp),fun _=>?_⟩
    rw[if_neg fun h=>h.2]
  ·simp only[h1,decide_false,cond_false]
   refine ⟨fun h=>absurd h (by simp),fun _=>?_⟩
   rw[if_neg fun h=>h.1]
abbrev StA:=Dr×V3×Int×Unit
def stepPre(p:StA):Bool:=i64? p.1.tick&&i64? p.2.2.1
def stepV(b:Bool)(p:StA):Dr×Bool :=
 let f:=(last3 opsF p.2.1 b).2
 let r:=rates opsF (gapT p.2.2.1 p.1.tick) p.1 p.2.1 f
 bif !p.1.on||gapT p.2.2.1 p.1.tick==0 then (bif f then (Dr.zero,f) else (⟨true,p.2.2.1,p.2.1,V3.zero⟩,f)) else (bif r.2 then (Dr.zero,r.2) else (⟨true,p.2.2.1,p.2.1,r.1⟩,r.2))
theorem doneD_eq(e:TypeId)(d:Dr)(f:Bool):doneD e d f=some (.val (Cod.enc (bif f then (Dr.zero,f) else (d,f)).1),row e (bif f then (Dr.zero,f) else (d,f)).2):=by cases f<;>rfl
theorem fadd_right{x v:Int}(h:fadd false x 0=(v,false)):v=x:=by
 unfold fadd at h
 rw[Int.add_zero]at h
 generalize (!false&&(num x&&(num 0&&num x)))=t at h
 cases t with
 | true=>simp only[cond_true,Prod.mk.injEq]at h;exact h.1.symm
 | false=>simp at h
theorem last_eq{u:V3}{b:Bool}(h:(last3 opsF u b).2=false):(last3 opsF u b).1=u:=by
 unfold last3 each3 at h ⊢
 simp only[opsF]at h ⊢
 have hs:∀x y,fadd true x y=(0,true):=fun _ _=>rfl
 cases b
 ·rcases h1:fadd false u.x 0 with ⟨x,f1⟩
  rw[h1]at h
  cases f1
  ·rcases h2:fadd false u.y 0 with ⟨y,f2⟩
   simp only[h2]at h
   cases f2
   ·rcases h3:fadd false u.z 0 with ⟨z,f3⟩
    simp only[h3]at h
    subst h
    simp only[fadd_right h1,fadd_right h2,fadd_right h3]
   ·simp[hs]at h
  ·simp[hs]at h
 ·simp[hs]at h
theorem rates_bad(t:Int)(d:Dr)(u:V3):(rates opsF t d u true).2=true:=rfl
theorem vadd_last(u:V3)(b:Bool):vop fadd b (u,V3.zero,())=done3 (last3 opsF u b):=rfl
theorem ok58:SumOk Tryz.prog 89 (Sc 57 stepPre stepV):=by
 refine Sc_ok (E:={gam:=(167,S0 btV) :: (146,S 57 (vop fadd)) :: gamN opsF}) (.cons ok133 (.cons ok50 gamN_ok)) 20 fun b p hp=>?_
 obtain ⟨d,u,tk,_⟩:=p
 refine (step58 opsF btV (vop fadd) b d u tk).trans ?_
 simp only[stepPre,Bool.and_eq_true]at hp
 obtain ⟨h1,h2⟩:=btV_eq hp.1 hp.2
 dsimp only
 rw[vadd_last]
 simp only[doneD_eq,done3]
 unfold stepV
 dsimp only
 cases hf:(last3 opsF u b).2 with
 | true =>
  simp only[rates_bad,cond_true]
  cases (btV (d.tick,tk,())).b<;>cases d.on<;>cases (gapT tk d.tick==0)<;>rfl
 | false =>
  simp only[cond_false,last_eq hf]
  cases hb:(btV (d.tick,tk,())).b with
  | false =>
   have :=h2 hb
   rw[this]
   cases d.on<;>rfl
  | true =>
   obtain ⟨e1,e2⟩:=h1 hb
   rw[e1,show (gapT tk d.tick==0)=false by simp;exact e2]
   cases d.on<;>rfl
end Go.Ab
namespace Go.Ab
open Go Go.Proofs
theorem blk1_X(s:Stp)(c:Crf)(r:Rds):blk1 s c r=some (unit0,stpX (s,c,r)):=rfl
def startP(p:V4×Unit):Gs:=start p.1
def spreadP(b:Bool)(p:Gs×Unit):Int×Bool:=spread opsF b p.1
def moveP:Bool→Gs×V3×Int×Unit→Gs×Bool:=moveO FP
def meetP:Bool→Gs×P2×P2×Unit→GCB×Bool:=meetO GP
theorem okStartP:SumOk Tryz.prog 48 (S0 startP):=ok105
theorem okSpreadP:SumOk Tryz.prog 50 (S 57 spreadP):=ok109
def planO(nx:Pl×Sn×Unit→Pl)(at_:Bool→P2×P2×Unit→V4×Bool)(st:V4×Unit→Gs)(x:CX):CX :=
 bif (nx (x.2.1.plan,x.1.seen,())).mode==2 then bif x.2.1.plan.mode != 2 then bif (at_ false (x.1.sky,x.1.body,())).2 then (x.1,{x.2.1 with plan:=⟨1,0,0,0,0,orJ (nx (x.2.1.plan,x.1.seen,())).faults 4⟩,guess:=Gs.zero},x.2.2)
   else bif (nx (x.2.1.plan,x.1.seen,())).mode != 2 then (x.1,{x.2.1 with plan:=nx (x.2.1.plan,x.1.seen,()),guess:=Gs.zero},x.2.2) else (x.1,{x.2.1 with plan:=nx (x.2.1.plan,x.1.seen,()),guess:=st ((at_ false (x.1.sky,x.1.body,())).1,())},x.2.2)
   else bif (nx (x.2.1.plan,x.1.seen,())).mode != 2 then (x.1,{x.2.1 with plan:=nx (x.2.1.plan,x.1.seen,()),guess:=Gs.zero},x.2.2) else (x.1,{x.2.1 with plan:=nx (x.2.1.plan,x.1.seen,())},x.2.2)
  else bif (nx (x.2.1.plan,x.1.seen,())).mode != 2 then (x.1,{x.2.1 with plan:=nx (x.2.1.plan,x.1.seen,()),guess:=Gs.zero},x.2.2) else (x.1,{x.2.1 with plan:=nx (x.2.1.plan,x.1.seen,())},x.2.2)
def planX:CX→CX:=planO (fun p=>nextV p.1 p.2.1) attitude startP
theorem okPlan:SumOk Tryz.prog 92 (ySM planX):=SM_ok (E:={gam:=[(173,S0 fun (p:Pl×Sn×Unit)=>nextV p.1 p.2.1),(174,S 57 attitude),(48,S0 startP)]}) (.cons ok9 (.cons ok98 (.cons okStartP .nil))) 20 fun x _ _=>by
 refine (plan92 (fun p=>nextV p.1 p.2.1) attitude startP x.1 x.2.1 x.2.2).trans ?_
 simp only[blk1_X,blk_cond]
 rfl
def filtEX(sp:Bool→Gs×Unit→Int×Bool)(x:CX)(g:Gs)(pass fl:Bool):CX :=
 bif decide ((sp fl (g,())).1>274877906944) then ({x.1 with seen:={x.1.seen with pass:=pass,bad:=true}},{x.2.1 with guess:=g},x.2.2)
 else ({x.1 with seen:={x.1.seen with pass:=pass,bad:=(sp fl (g,())).2}},{x.2.1 with guess:=g},x.2.2)
theorem filtE_X(sp:Bool→Gs×Unit→Int×Bool)(s:Stp)(c:Crf)(r:Rds)(g:Gs)(pass fl:Bool):filtE sp s c r g pass fl=some (unit0,stpX (filtEX sp (s,c,r) g pass fl)):=by
 unfold filtE
 simp only[blk1_X,blk_cond]
 rfl
def filtMX(me:Bool→Gs×P2×P2×Unit→GCB×Bool)(sp:Bool→Gs×Unit→Int×Bool)(x:CX)(m:Gs×Bool):CX :=
 bif x.1.seen.pair then bif x.1.seen.lit then filtEX sp x (me m.2 (m.1,x.1.sky,x.1.body,())).1.g (me m.2 (m.1,x.1.sky,x.1.body,())).1.ok (me m.2 (m.1,x.1.sky,x.1.body,())).2
  else filtEX sp x m.1 x.1.seen.pass m.2
 else filtEX sp x m.1 x.1.seen.pass m.2
theorem filtM_X(me:Bool→Gs×P2×P2×Unit→GCB×Bool)(sp:Bool→Gs×Unit→Int×Bool)(s:Stp)(c:Crf)(r:Rds)(m:Gs×Bool):filtM me sp s c r m=some (unit0,stpX (filtMX me sp (s,c,r) m)):=by
 unfold filtM
 simp only[filtE_X,blk_cond]
 rfl
def filtX(mv:Bool→Gs×V3×Int×Unit→Gs×Bool)(me:Bool→Gs×P2×P2×Unit→GCB×Bool)(sp:Bool→Gs×Unit→Int×Bool)(x:CX):CX :=
 bif x.1.seen.gyro then bif x.2.2.p1 then filtMX me sp x (mv false (x.2.1.guess,x.2.2.r1.v,x.1.gap,())) else filtMX me sp x (mv false (x.2.1.guess,V3.zero,x.1.gap,()))
  else filtMX me sp x (mv false (x.2.1.guess,x.2.1.guess.bias,x.1.gap,()))
def filterX:CX→CX:=filtX moveP meetP spreadP
theorem okFilter:SumOk Tryz.prog 91 (ySM filterX):=SM_ok (E:={gam:=[(49,S 57 moveP),(21,S 57 meetP),(50,S 57 spreadP)]}) (.cons okMoveF (.cons okMeetF (.cons okSpreadP .nil))) 20 fun x _ _=>by
 refine (filter91 moveP meetP spreadP x.1 x.2.1 x.2.2).trans ?_
 simp only[filtM_X,blk_cond]
 rfl
def lkBX(x:CX)(a b:V3)(p:Bool):CX:=({x.1 with body:=⟨a,b⟩,seen:={x.1.seen with pair:=p}},x.2.1,x.2.2)
theorem lkB_X(s:Stp)(c:Crf)(r:Rds)(a b:V3)(p:Bool):lkB s c r a b p=some (unit0,stpX (lkBX (s,c,r) a b p)):=rfl
def lkPX(F:LkOps)(x:CX)(fl:Bool):CX :=
 bif x.2.2.p2 then bif x.2.2.p3 then bif (F.ap fl (x.1.sky.a,x.1.sky.b,())).1 then lkBX x x.2.2.r2.v x.2.2.r3.v (F.ap (F.ap fl (x.1.sky.a,x.1.sky.b,())).2 (x.2.2.r2.v,x.2.2.r3.v,())).1 else lkBX x x.2.2.r2.v x.2.2.r3.v false
  else lkBX x x.2.2.r2.v V3.zero false
 else bif x.2.2.p3 then lkBX x V3.zero x.2.2.r3.v false else lkBX x V3.zero V3.zero false
theorem lkP_X(F:LkOps)(s:Stp)(c:Crf)(r:Rds)(fl:Bool):lkP F s c r fl=some (unit0,stpX (lkPX F (s,c,r) fl)):=by
 unfold lkP
 simp only[lkB_X,blk_cond]
 rfl
def lkSX(F:LkOps)(x:CX)(pl su sk:V3×Bool):CX :=
 bif sk.2 then ({x.1 with sky:=⟨su.1,sk.1⟩},x.2.1,x.2.2) else lkPX F ({x.1 with sky:=⟨su.1,sk.1⟩,seen:={x.1.seen with lit:=!(F.sh false (pl.1,su.1,())).1}},x.2.1,x.2.2) sk.2
theorem lkS_X(F:LkOps)(s:Stp)(c:Crf)(r:Rds)(pl su sk:V3×Bool):lkS F s c r pl su sk=some (unit0,stpX (lkSX F (s,c,r) pl su sk)):=by
 unfold lkS
 simp only[lkP_X,blk1_X,blk_cond]
 rfl
def lkGX(F:LkOps)(x:CX):CX :=
 bif !x.2.1.placed then x else
  lkSX F x (F.pl false (x.2.1.orb,x.1.tk,())) (F.su (F.pl false (x.2.1.orb,x.1.tk,())).2 (x.1.tk,())) (F.sk (F.su (F.pl false (x.2.1.orb,x.1.tk,())).2 (x.1.tk,())).2 ((F.pl false (x.2.1.orb,x.1.tk,())).1,x.1.tk,()))
theorem lkG_X(F:LkOps)(s:Stp)(c:Crf)(r:Rds):lkG F s c r=some (unit0,stpX (lkGX F (s,c,r))):=by
 unfold lkG
 simp only[lkS_X,blk1_X,blk_cond]
 rfl
def lookO(F:LkOps)(x:CX):CX :=
 bif x.2.2.p1 then lkGX F ({x.1 with seen:={x.1.seen with gyro:=true,slow:=decide ((F.vn false (x.2.2.r1.v,())).1≤54975581388)}},x.2.1,x.2.2) else lkGX F ({x.1 with seen:={x.1.seen with gyro:=false}},x.2.1,x.2.2)
def LK:LkOps:={vn:=vnorm opsF,pl:=placeV,su:=sunV,sk:=skyV,sh:=shadeV,ap:=apart (vparts vopsF)}
def lookX:CX→CX:=lookO LK
theorem gamLK:GamOk Tryz.prog (gamLk LK):=.cons ok66 (.cons okPlace (.cons okSun (.cons okSky (.cons okShade (.cons ok96 .nil)))))
theorem okLook:SumOk Tryz.prog 90 (ySM lookX):=SM_ok (E:={gam:=gamLk LK}) gamLK 20 fun x _ _=>by
 refine (look90 LK x.1 x.2.1 x.2.2).trans ?_
 simp only[lkG_X,blk_cond]
 rfl
end Go.Ab
namespace Go.Ab
open Go Go.Proofs
theorem bsL_data(s:ByteArray):bsL s.data.toList=s:=by unfold bsL;rw[Array.toArray_toList]
theorem data_bsL(l:List UInt8):(bsL l).data.toList=l:=by unfold bsL;simp
theorem bsL_append(a b:List UInt8):bsL a++bsL b=bsL (a++b):=ByteArray.mk_append_mk a b
theorem extract_bsL(l:List UInt8)(i j:Nat):(bsL l).extract i j=bsL ((l.drop i).take (j-i)):=by
 have h:((bsL l).extract i j).data.toList=(l.drop i).take (j-i):=by
  rw[ByteArray.data_extract]
  unfold bsL
  simp
 rw[← h,bsL_data]
theorem push2(x y:Nat)(hx:x<256)(hy:y<256):List.foldl pushI ByteArray.empty [(x:Int),(y:Int)]=bsL [UInt8.ofNat x,UInt8.ofNat y]:=by
 have :=push_bsL [UInt8.ofNat x,UInt8.ofNat y]
 rw[List.map_cons,List.map_cons,List.map_nil,ofNat8 hx,ofNat8 hy]at this
 exact this
theorem okRefWrap:SumOk Tryz.prog 110 (S0w (fun _=>true) fun (p:Fr×Unit)=>wrapV p.1):=by
 have hG:GamOk Tryz.prog [(192,S0w szOk crcN)]:=.cons okRef .nil
 refine S0w_of fun a w _=>?_
 obtain ⟨⟨k,s⟩,_⟩:=a
 refine Calls.mono (calls_of_sum (E:={gam:=[(192,S0w szOk crcN)]}) hG (d:=20) (f:=110) (vals:=[.agg #[.int .i64 k,.string s]]) (v:=Cod.enc (wrapV ⟨k,s⟩)) ((ref13 szOk crcN k s).trans ?_) w) fun e w' h=>⟨_,h.1,h.2,rfl⟩
 unfold wrapV
 dsimp only
 by_cases c1:k<0
 ·rw[decide_eq_true c1];rfl
 by_cases c2:k>255
 ·rw[decide_eq_false c1,decide_eq_true c2];rfl
 by_cases c3:(s.size:Int)>64
 ·rw[decide_eq_false c1,decide_eq_false c2,decide_eq_true c3];rfl
 rw[decide_eq_false c1,decide_eq_false c2,decide_eq_false c3]
 simp only[cond_false,Bool.or_false]
 obtain ⟨n,rfl⟩:∃n:Nat,k=n:=⟨k.toNat,by omega⟩
 have hdl:s.data.toList.length=s.size:=rfl
 have hb:List.foldl pushI ByteArray.empty [IntKind.u8.wrap (n:Int),IntKind.u8.wrap (s.size:Int)]++s=bsL (bodyL n s.data.toList):=by
  rw[wrap8,wrap8,Nat.mod_eq_of_lt (by omega),Nat.mod_eq_of_lt (by omega),push2 _ _ (by omega) (by omega)]
  have e:=bsL_append [UInt8.ofNat n,UInt8.ofNat s.size] s.data.toList
  rw[bsL_data]at e
  rw[e]
  rfl
 have hhs:(List.foldl pushI ByteArray.empty [IntKind.u8.wrap (n:Int),IntKind.u8.wrap (s.size:Int)]).size=2:=rfl
 rw[hb,hhs]
 have hbl:(bodyL n s.data.toList).length=2+s.size:=by simp[bodyL,hdl];omega
 have hcl:=crcF_lt (bodyL n s.data.toList) 65535 (by omega)
 have hc:((crcN (bsL (bodyL n s.data.toList),())).n:Int)=(crcF (bodyL n s.data.toList) 65535:Nat):=by unfold crcN;rw[data_bsL]
 have hsz:szOk (bsL (bodyL n s.data.toList),())=true:=decide_eq_true (by show (bsL _).size≤_;rw[size_bsL,hbl];omega)
 rw[hc,hsz]
 generalize hcr:crcF (bodyL n s.data.toList) 65535=cr at *
 have e1:IntKind.u8.wrap (IntKind.u16.wrap ((cr:Int).tdiv 256))=((cr / 256:Nat):Int):=by
  have:(cr:Int).tdiv 256=((cr / 256:Nat):Int):=rfl
  rw[this,wrap16,Nat.mod_eq_of_lt (by omega),wrap8,Nat.mod_eq_of_lt (by omega)]
 have e2:IntKind.u8.wrap ((cr:Int).tmod 256)=((cr % 256:Nat):Int):=by
  have:(cr:Int).tmod 256=((cr % 256:Nat):Int):=rfl
  rw[this,wrap8,Nat.mod_eq_of_lt (by omega)]
 rw[e1,e2,push2 _ _ (by omega) (by omega)]
 have e165:(⟨#[165]⟩:ByteArray)=bsL [165]:=rfl
 rw[e165,bsL_append,bsL_append,size_bsL,size_bsL,size_bsL,size_bsL]
 have hw:[165]++bodyL n s.data.toList++[UInt8.ofNat (cr / 256),UInt8.ofNat (cr % 256)]=wrapL n s.data.toList:=by unfold wrapL;rw[hcr];rfl
 rw[hw,decide_eq_false (by omega),decide_eq_false (by rw[hbl];simp;omega),decide_eq_false (by simp[hbl];omega)]
 rfl
def openV(s:ByteArray):Two Fr Bool :=
 let l:=s.data.toList
 let d:=(l.drop 3).take (l.length-5)
 let k:=(l.getD 1 0).toNat
 if 5≤l.length∧d.length≤64∧l=wrapL k d then ⟨⟨k,bsL d⟩,true⟩ else ⟨⟨0,⟨#[]⟩⟩,false⟩
theorem shape5{l:List UInt8}(h:5≤l.length):∃a k n d p q,l=a :: k :: n :: (d++[p,q]):=by
 match l,h with
 | a :: k :: n :: r,h =>
  have hr:2≤r.length:=by simp at h;omega
  refine ⟨a,k,n,r.take (r.length-2),r.getD (r.length-2) 0,r.getD (r.length-1) 0,?_⟩
  congr 3
  have e:r=r.take (r.length-2)++r.drop (r.length-2):=(List.take_append_drop ..).symm
  have e2:r.drop (r.length-2)=[r.getD (r.length-2) 0,r.getD (r.length-1) 0]:=by
   rw[List.drop_eq_getElem_cons (by omega),List.drop_eq_getElem_cons (by omega),List.drop_eq_nil_of_le (by omega)]
   rw[List.getD_eq_getElem?_getD,List.getD_eq_getElem?_getD,List.getElem?_eq_getElem (by omega),List.getElem?_eq_getElem (by omega)]
   have:r.length-2+1=r.length-1:=by omega
   simp only[this,Option.getD_some]
  rw[← e2]
  exact e
theorem u8_eq{a:UInt8}{n:Nat}(hn:n<256):a=UInt8.ofNat n↔a.toNat=n:=by
 constructor
 ·intro h
  have :=ofNat8 hn
  rw[h]
  omega
 ·intro h
  apply UInt8.toNat_inj.1
  have :=ofNat8 hn
  omega
section
variable {s:ByteArray} {a k n p q:UInt8} {d:List UInt8} (hl:s.data.toList=a :: k :: n :: (d++[p,q]))
include hl
theorem openV_of:openV s=if d.length≤64∧a=165∧n=UInt8.ofNat d.length∧p=UInt8.ofNat (crcF (k :: n :: d) 65535 / 256)∧q=UInt8.ofNat (crcF (k :: n :: d) 65535 % 256) then ⟨⟨k.toNat,bsL d⟩,true⟩ else ⟨⟨0,⟨#[]⟩⟩,false⟩:=by
 unfold openV
 dsimp only
 rw[hl]
 have e1:((a :: k :: n :: (d++[p,q])).drop 3).take ((a :: k :: n :: (d++[p,q])).length-5)=d:=by
  have:(a :: k :: n :: (d++[p,q])).length-5=d.length:=by simp
  rw[this]
  simp
 have e2:(a :: k :: n :: (d++[p,q])).getD 1 0=k:=rfl
 rw[e1,e2]
 have hk:UInt8.ofNat k.toNat=k:=UInt8.ofNat_toNat
 have key:(5≤(a :: k :: n :: (d++[p,q])).length∧d.length≤64∧a :: k :: n :: (d++[p,q])=wrapL k.toNat d) ↔
   (d.length≤64∧a=165∧n=UInt8.ofNat d.length∧p=UInt8.ofNat (crcF (k :: n :: d) 65535 / 256)∧q=UInt8.ofNat (crcF (k :: n :: d) 65535 % 256)):=by
  unfold wrapL bodyL
  rw[hk]
  constructor
  ·rintro ⟨_,h2,h3⟩
   simp only[List.cons_append,List.cons.injEq,true_and]at h3
   obtain ⟨h4,h5,h6⟩:=h3
   rw[← h5]at h6
   have :=List.append_cancel_left h6
   simp only[List.cons.injEq,and_true]at this
   exact ⟨h2,h4,h5,this⟩
  ·rintro ⟨h2,h4,h5,h6,h7⟩
   refine ⟨by simp,h2,?_⟩
   rw[← h5,← h6,← h7,h4]
   rfl
 by_cases h:d.length≤64∧a=165∧n=UInt8.ofNat d.length∧p=UInt8.ofNat (crcF (k :: n :: d) 65535 / 256)∧q=UInt8.ofNat (crcF (k :: n :: d) 65535 % 256)
 ·rw[if_pos h,if_pos (key.2 h)]
 ·rw[if_neg h,if_neg fun g=>h (key.1 g)]
theorem size_of:s.size=d.length+5:=by
 have h:s.data.toList.length=s.size:=rfl
 rw[← h,hl]
 simp
theorem byte0:byteI s 0=a.toNat:=by unfold byteI;rw[hl];rfl
theorem byte1:byteI s 1=k.toNat:=by unfold byteI;rw[hl];rfl
theorem byte2:byteI s 2=n.toNat:=by unfold byteI;rw[hl];rfl
theorem byteP{i:Int}(hi:i=d.length+3):byteI s i=p.toNat:=by
 have:i.toNat=d.length+3:=by omega
 unfold byteI
 rw[hl,this]
 simp[List.getD_eq_getElem?_getD]
theorem byteQ{i:Int}(hi:i=d.length+4):byteI s i=q.toNat:=by
 have:i.toNat=d.length+4:=by omega
 unfold byteI
 rw[hl,this]
 simp[List.getD_eq_getElem?_getD]
theorem cut1{m:Nat}(hm:m=d.length+3):s.extract 1 m=bsL (k :: n :: d):=by
 rw[← bsL_data s,extract_bsL,hl]
 have:m-1=d.length+2:=by omega
 rw[this]
 simp
theorem cut3{m:Nat}(hm:m=d.length+3):s.extract 3 m=bsL d:=by
 rw[← bsL_data s,extract_bsL,hl]
 have:m-3=d.length:=by omega
 rw[this]
 simp
end
theorem orW_eq{p q:Nat}(hp:p<256)(hq:q<256):orW (IntKind.u16.wrap (IntKind.u16.wrap (p:Int)*2^min (Int.toNat 8) IntKind.u16.bits)) (IntKind.u16.wrap (q:Int))=((p*256+q:Nat):Int):=by
 have e8:min (Int.toNat 8) IntKind.u16.bits=8:=rfl
 rw[e8,wrap16,Nat.mod_eq_of_lt (by omega),shl8,wrap16,Nat.mod_eq_of_lt (by omega),Nat.mod_eq_of_lt (by omega)]
 have h:(BitVec.ofInt IntKind.u16.bits ((p*256:Nat):Int) ||| BitVec.ofInt IntKind.u16.bits (q:Int)).toNat=p*256+q:=by
  show (BitVec.ofInt 16 ((p*256:Nat):Int) ||| BitVec.ofInt 16 (q:Int)).toNat=_
  rw[BitVec.ofInt_natCast,BitVec.ofInt_natCast,BitVec.toNat_or,BitVec.toNat_ofNat,BitVec.toNat_ofNat,Nat.mod_eq_of_lt (by omega),Nat.mod_eq_of_lt (by omega)]
  have :=Nat.two_pow_add_eq_or_of_lt (i:=8) (b:=q) (by omega) p
  rw[show 2^8*p=p*256 by omega]at this
  rw[this]
 unfold orW
 rw[h,wrap16,Nat.mod_eq_of_lt (by omega)]
theorem small_open{s:ByteArray}(h:s.size<5):openV s=⟨⟨0,⟨#[]⟩⟩,false⟩:=by
 unfold openV
 dsimp only
 have hl:s.data.toList.length=s.size:=rfl
 rw[if_neg fun g=>by omega]
theorem okOpen:SumOk Tryz.prog 208 (S0w szOk fun (p:ByteArray×Unit)=>openV p.1):=by
 have hG:GamOk Tryz.prog [(231,S0w szOk crcN)]:=.cons okSum .nil
 refine S0w_of fun a w hp=>?_
 obtain ⟨s,_⟩:=a
 have hsz:s.size≤4611686018427387904:=of_decide_eq_true hp
 refine Calls.mono (calls_of_sum (E:={gam:=[(231,S0w szOk crcN)]}) hG (d:=20) (f:=208) (vals:=[.string s]) (v:=Cod.enc (openV s)) ((open14 szOk crcN s).trans ?_) w) fun e w' h=>⟨_,h.1,h.2,rfl⟩
 dsimp only
 by_cases h5:(s.size:Int)<5
 ·rw[decide_eq_true h5,small_open (by omega)];rfl
 rw[decide_eq_false h5,cond_false]
 obtain ⟨a,k,n,d,p,q,hl⟩:=shape5 (l:=s.data.toList) (by have hl:s.data.toList.length=s.size:=rfl;omega)
 have hs:=size_of hl
 have ha:=a.toNat_lt
 have hk:=k.toNat_lt
 have hn:=n.toNat_lt
 have hpp:=p.toNat_lt
 have hq:=q.toNat_lt
 have hcl:=crcF_lt (k :: n :: d) 65535 (by omega)
 have w2:IntKind.i64.wrap ((s.size:Int)-2)=((d.length+3:Nat):Int):=by rw[wrapM];omega
 have w5:IntKind.i64.wrap ((s.size:Int)-5)=(d.length:Int):=by rw[wrapM];omega
 have w3:IntKind.i64.wrap (((d.length+3:Nat):Int)+1)=((d.length+4:Nat):Int):=by rw[wrapM];omega
 have wn:IntKind.i64.wrap (n.toNat:Int)=(n.toNat:Int):=by rw[wrapM];omega
 have wk:IntKind.i64.wrap (k.toNat:Int)=(k.toNat:Int):=by rw[wrapM];omega
 have cut1':s.extract (Int.toNat 1) (((d.length+3:Nat):Int)).toNat=bsL (k :: n :: d):=cut1 hl (by omega)
 have cut3':s.extract (Int.toNat 3) (((d.length+3:Nat):Int)).toNat=bsL d:=cut3 hl (by omega)
 have hsum:((crcN (bsL (k :: n :: d),())).n:Int)=(crcF (k :: n :: d) 65535:Nat):=by unfold crcN;rw[data_bsL]
 rw[openV_of hl,w2,w3,w5,byte0 hl,byte1 hl,byte2 hl,wn,wk,byteP hl (by omega),byteQ hl (by omega),orW_eq hpp hq,cut1',cut3',hsum]
 have hpre:szOk (bsL (k :: n :: d),())=true:=decide_eq_true (by show (bsL _).size≤_;rw[size_bsL];simp;omega)
 rw[hpre,decide_eq_true (p:=0≤(0:Int)∧0<(s.size:Int)) (by omega),decide_eq_true (p:=0≤(2:Int)∧2<(s.size:Int)) (by omega),decide_eq_true (p:=0≤(1:Int)∧1≤((d.length+3:Nat):Int)∧((d.length+3:Nat):Int)≤(s.size:Int)) (by omega),
  decide_eq_true (p:=0≤((d.length+3:Nat):Int)∧((d.length+3:Nat):Int)<(s.size:Int)) (by omega),decide_eq_true (p:=0≤((d.length+4:Nat):Int)∧((d.length+4:Nat):Int)<(s.size:Int)) (by omega),decide_eq_true (p:=0≤(1:Int)∧1<(s.size:Int)) (by omega),
  decide_eq_true (p:=0≤(3:Int)∧3≤((d.length+3:Nat):Int)∧((d.length+3:Nat):Int)≤(s.size:Int)) (by omega)]
 simp only[cond_true,cond_false]
 by_cases c1:a=165
 ·have b1:((a.toNat:Int) != 165)=false:=by rw[c1];rfl
  rw[b1,cond_false]
  by_cases c2:(n.toNat:Int)=(d.length:Int)
  ·have b2:((n.toNat:Int) != (d.length:Int))=false:=by rw[c2];simp
   rw[b2,cond_false]
   by_cases c3:(d.length:Int)>64
   ·rw[decide_eq_true c3,if_neg fun g=>by omega];rfl
   ·rw[decide_eq_false c3,cond_false]
    by_cases c4:crcF (k :: n :: d) 65535=p.toNat*256+q.toNat
    ·have b4:(((crcF (k :: n :: d) 65535:Nat):Int) != ((p.toNat*256+q.toNat:Nat):Int))=false:=by rw[c4];simp
     rw[b4,cond_false,if_pos ⟨by omega,c1,(u8_eq (by omega)).2 (by omega),(u8_eq (by omega)).2 (by omega),(u8_eq (by omega)).2 (by omega)⟩]
     rfl
    ·have b4:(((crcF (k :: n :: d) 65535:Nat):Int) != ((p.toNat*256+q.toNat:Nat):Int))=true:=bne_iff_ne.2 (by omega)
     rw[b4,if_neg fun g=>by
      have g1:=(u8_eq (a:=p) (by omega)).1 g.2.2.2.1
      have g2:=(u8_eq (a:=q) (by omega)).1 g.2.2.2.2
      omega]
     rfl
  ·have b2:((n.toNat:Int) != (d.length:Int))=true:=bne_iff_ne.2 c2
   rw[b2,if_neg fun g=>by
    have g1:=(u8_eq (a:=n) (by omega)).1 g.2.2.1
    omega]
   rfl
 ·have b1:((a.toNat:Int) != 165)=true:=bne_iff_ne.2 fun e=>c1 ((u8_eq (n:=165) (by omega)).2 (by omega))
  rw[b1,if_neg fun g=>c1 g.2.1]
  rfl
theorem open15(pre:Fr×Unit→Bool)(g:Fr×Unit→Two ByteArray Bool)(s:ByteArray):fnSum Tryz.prog {gam:=[(110,S0w pre g)]} [] 20 29 [.val (.string s)] [] =
  let L:Int:=s.size
  let m:=IntKind.i64.wrap (L-2)
  let x:Fr:=⟨IntKind.i64.wrap (byteI s 1),s.extract (Int.toNat 3) m.toNat⟩
  bif decide (L<5) then noF else bif decide (0≤(1:Int)∧1<L) then bif decide (0≤(3:Int)∧3≤m∧m≤L) then bif pre (x,()) then
   bif !(g (x,())).b then noF else bif bif false then true else !((g (x,())).a.toList==s.toList) then noF else some (.val (.tuple #[.agg #[.int .i64 x.kind,.string x.data],.bool true]),[])
  else none else none else none:=by kernel_rfl
theorem okRefOpen:SumOk Tryz.prog 29 (S0w szOk fun (p:ByteArray×Unit)=>openV p.1):=by
 have hG:GamOk Tryz.prog [(110,S0w (fun _=>true) fun (p:Fr×Unit)=>wrapV p.1)]:=.cons okRefWrap .nil
 refine S0w_of fun a w hp=>?_
 obtain ⟨s,_⟩:=a
 have hsz:s.size≤4611686018427387904:=of_decide_eq_true hp
 refine Calls.mono (calls_of_sum (E:={gam:=[(110,S0w (fun _=>true) fun (p:Fr×Unit)=>wrapV p.1)]}) hG (d:=20) (f:=29) (vals:=[.string s]) (v:=Cod.enc (openV s)) ((open15 (fun _=>true) (fun p=>wrapV p.1) s).trans ?_) w) fun e w' h=>⟨_,h.1,h.2,rfl⟩
 dsimp only
 by_cases h5:(s.size:Int)<5
 ·rw[decide_eq_true h5,small_open (by omega)];rfl
 rw[decide_eq_false h5,cond_false]
 obtain ⟨a,k,n,d,p,q,hl⟩:=shape5 (l:=s.data.toList) (by have hl:s.data.toList.length=s.size:=rfl;omega)
 have hs:=size_of hl
 have hk:=k.toNat_lt
 have w2:IntKind.i64.wrap ((s.size:Int)-2)=((d.length+3:Nat):Int):=by rw[wrapM];omega
 have wk:IntKind.i64.wrap (k.toNat:Int)=(k.toNat:Int):=by rw[wrapM];omega
 have cut3':s.extract (Int.toNat 3) (((d.length+3:Nat):Int)).toNat=bsL d:=cut3 hl (by omega)
 rw[w2,byte1 hl,wk,cut3',decide_eq_true (p:=0≤(1:Int)∧1<(s.size:Int)) (by omega),decide_eq_true (p:=0≤(3:Int)∧3≤((d.length+3:Nat):Int)∧((d.length+3:Nat):Int)≤(s.size:Int)) (by omega)]
 simp only[cond_true,cond_false]
 have hd64:(bsL d).size=d.length:=size_bsL d
 have hop:openV s=if d.length≤64∧s=bsL (wrapL k.toNat d) then ⟨⟨k.toNat,bsL d⟩,true⟩ else ⟨⟨0,⟨#[]⟩⟩,false⟩:=by
  unfold openV
  dsimp only
  have e1:(s.data.toList.drop 3).take (s.data.toList.length-5)=d:=by
   have:(s.data.toList).length-5=d.length:=by rw[hl];simp
   rw[this,hl]
   simp
  have e2:s.data.toList.getD 1 0=k:=by rw[hl];rfl
  have e3:5≤s.data.toList.length:=by rw[hl];simp
  have e4:s.data.toList=wrapL k.toNat d↔s=bsL (wrapL k.toNat d):=by
   constructor
   ·intro h;rw[← h,bsL_data]
   ·intro h;rw[h,data_bsL]
  rw[e1,e2]
  by_cases h:d.length≤64∧s=bsL (wrapL k.toNat d)
  ·rw[if_pos h,if_pos ⟨e3,h.1,e4.2 h.2⟩]
  ·rw[if_neg h,if_neg fun g=>h ⟨g.2.1,e4.1 g.2.2⟩]
 rw[hop]
 by_cases c3:(d.length:Int)>64
 ·have hw:wrapV ⟨(k.toNat:Int),bsL d⟩=⟨⟨#[]⟩,false⟩:=by
   unfold wrapV
   dsimp only
   rw[hd64,decide_eq_true c3,Bool.or_true,Bool.or_true]
   rfl
  rw[hw,if_neg fun g=>by omega]
  rfl
 ·have hw:wrapV ⟨(k.toNat:Int),bsL d⟩=⟨bsL (wrapL k.toNat d),true⟩:=by
   unfold wrapV
   dsimp only
   rw[hd64,decide_eq_false c3,decide_eq_false (by omega),decide_eq_false (by omega),data_bsL]
   rfl
  rw[hw]
  simp only[Bool.not_true,cond_false]
  have hbeq:((bsL (wrapL k.toNat d)).toList==s.toList)=decide (s=bsL (wrapL k.toNat d)):=by
   rw[ByteArray.toList_eq,ByteArray.toList_eq,data_bsL]
   by_cases h:s=bsL (wrapL k.toNat d)
   ·rw[decide_eq_true h,h,data_bsL];simp
   ·rw[decide_eq_false h]
    apply beq_eq_false_iff_ne.2
    intro g
    exact h (by rw[g,bsL_data])
  rw[hbeq]
  by_cases h:s=bsL (wrapL k.toNat d)
  ·rw[decide_eq_true h,if_pos ⟨by omega,h⟩];rfl
  ·rw[decide_eq_false h,if_neg fun g=>h g.2];rfl
end Go.Ab
namespace Go.Ab
open Go
section
variable {P:Program} {N:Nat} {w0:World} {own:Nat→Prop} {σ0:Nat→Option Nat} {lo0 hi0:Nat} {s:St} {a:Act} {w:World}
theorem StFits.elsewhere(h:StFits N w0 own σ0 lo0 hi0 s a w){w':World}(h1:w'.os=w.os)(h2:w'.tape=w.tape)(h3:w'.output=w.output)(hg:w.heap.size≤w'.heap.size)(hs:∀j,j<w.heap.size→w'.heap[j]?=w.heap[j]?) :
  ∃(own1:Nat→Prop) (σ1:Nat→Option Nat),(∀r,own1 r→r<w.heap.size)∧(StFits N w' own1 σ1 s.lo s.hi s a w'∧∀b,s.lo≤b→b<s.hi→σ1 b=none)∧∀s' a' w2,StFits N w' own1 σ1 s.lo s.hi s' a' w2→StFits N w0 own σ0 lo0 hi0 s' a' w2:=by
 obtain ⟨σ,u,hf,hsub,hn,hle,hout,hlo,hhi⟩:=h
 have hw:=hf.sub hsub
 refine ⟨fun r=>∃b,σ b=some r∧((∃e cs,s.u (.blk b)=some (.row e cs))∨∃o,s.u (.blk b)=some (.obj o)),σ,fun r ⟨b,hb,_⟩=>hw.bound b r hb,?_,?_⟩
 ·refine ⟨⟨σ,s.u,?_,Sub.refl _,hn,Le.refl σ,fun b hb _=>hb,Nat.le_refl _,Nat.le_refl _⟩,hn⟩
  refine {hw with row:=fun b e cs hb=>?_,obj:=fun b o hb=>?_,bound:=fun b r hb=>Nat.lt_of_lt_of_le (hw.bound b r hb) hg,ownsR:=fun b e cs r hb hr=>.inl ⟨b,hr,.inl ⟨e,cs,hb⟩⟩,ownsO:=fun b o r hb hr=>.inl ⟨b,hr,.inr ⟨o,hb⟩⟩,os:=rfl,tape:=rfl,output:=rfl,grown:=Nat.le_refl _,frame:=fun _ _ _=>rfl}
  ·obtain ⟨r,vs,k1,k2,k3⟩:=hw.row b e cs hb
   exact ⟨r,vs,k1,by rw[hs r (hw.bound b r k1)];exact k2,k3⟩
  ·obtain ⟨r,o',k1,k2,k3⟩:=hw.obj b o hb
   exact ⟨r,o',k1,by rw[hs r (hw.bound b r k1)];exact k2,k3⟩
 ·rintro s' a' w2 ⟨σ2,u2,hf2,hs2,hn2,hl2,ho2,hlo2,hhi2⟩
  have key:∀r,((∃b,σ b=some r∧((∃e cs,s.u (.blk b)=some (.row e cs))∨∃o,s.u (.blk b)=some (.obj o)))∨w'.heap.size≤r)→own r∨w0.heap.size≤r:=by
   intro r hr
   rcases hr with ⟨b,hb,⟨e,cs,hc⟩ | ⟨o,hc⟩⟩ | hr
   ·exact hw.ownsR b e cs r hc hb
   ·exact hw.ownsO b o r hc hb
   ·have :=hw.grown
    exact .inr (by omega)
  refine ⟨σ2,u2,{hf2 with ownsR:=fun b e cs r hb hr=>key r (hf2.ownsR b e cs r hb hr),ownsO:=fun b o r hb hr=>key r (hf2.ownsO b o r hb hr),os:=hf2.os.trans (h1.trans hw.os),tape:=hf2.tape.trans (h2.trans hw.tape),output:=hf2.output.trans (h3.trans hw.output),grown:=Nat.le_trans hw.grown (Nat.le_trans hg hf2.grown),frame:=fun k hk hno=>?_},hs2,hn2,hle.trans hl2,fun b hb hb'=>ho2 b (hout b hb hb') (by omega),by omega,by omega⟩
  have hkw:=hw.grown
  refine (hf2.frame k (by omega) fun ho=>?_).trans ((hs k (by omega)).trans (hw.frame k hk hno))
  rcases key k (.inl ho) with h | h
  ·exact hno h
  ·omega
theorem StFits.put(h:StFits N w0 own σ0 lo0 hi0 s a w){d:Nat}(hd:d<N)(hlen:s.tmps.length=N)(v:Value):StFits N w0 own σ0 lo0 hi0 {s with tmps:=s.tmps.set d (.val v)} (a.put (some d) v) w:=by
 obtain ⟨σ,u,hf,hs,hn,hle,hout,hlo,hhi⟩:=h
 refine ⟨σ,upd1 u (.tmp d) (.av (.val v)),hf.put hd (by simp only[Rel]),fun l c h=>?_,hn,hle,hout,hlo,hhi⟩
 cases l with
 | blk b=>simpa[upd1]using hs (.blk b) c h
 | tmp t =>
  by_cases e:t=d
  ·subst e
   simp only[St.u,stU,List.getElem?_set_self (by omega:t<s.tmps.length),Option.map_some,Option.some.injEq]at h
   subst h
   simp[upd1]
  ·simp only[St.u,stU,List.getElem?_set_ne (Ne.symm e)]at h
   have:upd1 u (.tmp d) (.av (.val v)) (.tmp t)=u (.tmp t):=by simp[upd1,e]
   rw[this]
   exact hs _ _ h
theorem StFits.eval(h:StFits N w0 own σ0 lo0 hi0 s a w){t:Nat}{v:Value}(ht:s.tmps[t]?=some (.val v)):a.eval (.tmp t)=v:=by
 obtain ⟨σ,u,hf,hs,_⟩:=h
 obtain ⟨x,h1,h2⟩:=hf.tmp t (.val v) (hs _ _ (by simp[St.u,stU,ht]))
 simp only[Rel]at h2
 subst h2
 simp[Act.eval,h1]
theorem StFits.far(h:StFits N w0 own σ0 lo0 hi0 s a w){k:Nat}(hk:k<w0.heap.size)(ho:¬ own k):w.heap[k]?=w0.heap[k]?:=by
 obtain ⟨σ,u,hf,_⟩:=h
 exact hf.frame k hk ho
theorem StFits.lower(h:StFits N w0 own σ0 lo0 hi0 s a w)(hnone:∀b,lo0≤b→b<hi0→σ0 b=none)(hok:okClean lo0 s=true)(hhi:s.hi=hi0):StFits N w0 own σ0 lo0 hi0 {s with lo:=lo0} a w:=by
 simp only[okClean,Bool.and_eq_true,List.all_eq_true,Nat.blt_eq]at hok
 obtain ⟨hct,hch⟩:=hok
 have hblk:∀b c,s.u (.blk b)=some c→cleanB lo0 hi0 b:=fun b c hb=>by
  have hm:=hget_mem (H:=s.heap) hb
  have :=(hch _ hm).1
  unfold cleanB
  omega
 have hcl:∀l c,s.u l=some c→CleanC lo0 hi0 c:=fun l c hl=>by
  cases l with
  | tmp t =>
   simp only[St.u,stU,Option.map_eq_some_iff]at hl
   obtain ⟨x,hx,rfl⟩:=hl
   intro b hb
   have :=hct x (List.mem_of_getElem? hx) b hb
   unfold cleanB
   omega
  | blk b =>
   have hm:=hget_mem (H:=s.heap) hl
   have :=(hch _ hm).2
   cases c with
   | av x=>intro d hd;have :=this d hd;unfold cleanB;omega
   | row e cs=>intro d hd;have :=this d hd;unfold cleanB;omega
   | obj o=>trivial
 obtain ⟨σ,u,hf,hs,hn,hl,ho,hlo,hi⟩:=h
 have hw:Fits N w0 own σ s.u a w:=hf.sub hs
 refine ⟨cutσ σ lo0 hi0,s.u,?_,Sub.refl _,fun b hb1 hb2=>?_,fun b r hb=>?_,fun b hb1 hb2=>?_,Nat.le_refl _,hi⟩
 ·refine {hw with tmp:=fun t v hv=>?_,row:=fun b e cs hb=>?_,obj:=fun b o hb=>?_,inj:=fun b b' r h1 h2=>hw.inj b b' r (cutσ_some h1) (cutσ_some h2),bound:=fun b r hb=>hw.bound b r (cutσ_some hb),ownsR:=fun b e cs r hb hr=>hw.ownsR b e cs r hb (cutσ_some hr),ownsO:=fun b o r hb hr=>hw.ownsO b o r hb (cutσ_some hr)}
  ·obtain ⟨x,h3,h4⟩:=hw.tmp t v hv
   exact ⟨x,h3,Rel.cut v x (hcl _ _ hv) h4⟩
  ·obtain ⟨r,vs,h3,h4,h5⟩:=hw.row b e cs hb
   exact ⟨r,vs,by rw[cutσ_clean (hblk b _ hb)];exact h3,h4,Rels.cut cs vs (hcl _ _ hb) h5⟩
  ·obtain ⟨r,o',h3,h4,h5⟩:=hw.obj b o hb
   exact ⟨r,o',by rw[cutσ_clean (hblk b _ hb)];exact h3,h4,h5⟩
 ·have hb2:b<hi0:=by rw[← hhi];exact hb2
  unfold cutσ
  rw[if_pos ⟨hb1,hb2⟩]
 ·have hc:cleanB lo0 hi0 b:=fun hc=>by rw[hnone b hc.1 hc.2]at hb;cases hb
  rw[cutσ_clean hc]
  exact hl b r hb
 ·have :=ho b hb1 hb2
  unfold cutσ
  split
  ·rfl
  ·exact this
variable {ops:Array Oper} {Q:Exit→Act→World→Prop}
theorem op_fit{k d:Nat}{op:Op}(hs:sigOf ops k=some (op,some d,true))(hd:d<N)(hlen:s.tmps.length=N)(hh:StFits N w0 own σ0 lo0 hi0 s a w){v:Value}(hrun:∀o:Oper,o.op=op→(execOp a.eval o).run P w=.ok (.value v) w)(rest:List Nat)
  (hK:∀a',StFits N w0 own σ0 lo0 hi0 {s with tmps:=s.tmps.set d (.val v)} a' w→wpOps P ops Q rest a' w):wpOps P ops Q (k :: rest) a w:=by
 obtain ⟨o,ho,hop,hdst,hg⟩:=sigOf_some hs
 rw[wpOps_cons]
 unfold wpOp
 rw[ho]
 simp only
 rw[if_pos (by simp[Region.wanted,hg])]
 refine .inl ?_
 unfold Oper.wp
 rw[hrun o hop,Oper.upon_value,hdst]
 exact hK _ (hh.put hd hlen v)
theorem index_fit{k d:Nat}{t elem:TypeId}{x ix:Operand}{ti:TypeInfo}(hs:sigOf ops k=some (.indexAddr t x ix,some d,true))(hd:d<N)(hlen:s.tmps.length=N)(hu:P.underlying t=some (.slice elem))(hi:P.info? elem=some ti)
  (hh:StFits N w0 own σ0 lo0 hi0 s a w) {b:Addr} {len cap i:Nat} {ik:IntKind} (hx:a.eval x=.slice (some b) len cap) (hix:a.eval ix=.int ik i) (hlt:i<len) (rest:List Nat)
  (hK:∀a',StFits N w0 own σ0 lo0 hi0 {s with tmps:=s.tmps.set d (.val (.pointer (some (b.add (i*ti.size)))))} a' w→wpOps P ops Q rest a' w):wpOps P ops Q (k :: rest) a w:=by
 refine op_fit hs hd hlen hh (v:=.pointer (some (b.add (i*ti.size)))) (fun o hop=>?_) rest hK
 have hb:0≤(i:Int)∧(i:Int)<(len:Int):=by omega
 simp only[execOp,hop,Instr.indexAt,hix,asIntOf,Sem.run_bind,run_underlying hu,Result.andThen_ok,hx,Sem.run_pure,Sem.run_ite,if_pos hb,run_sizeOf hi,Int.toNat_natCast]
theorem load_fit{k d:Nat}{t:TypeId}{x:Operand}(hs:sigOf ops k=some (.load t x,some d,true))(hd:d<N)(hlen:s.tmps.length=N)(hh:StFits N w0 own σ0 lo0 hi0 s a w){b:Addr}(hx:a.eval x=.pointer (some b)){v:Value}(hv:(loadVar t b).run P w=.ok v w)(rest:List Nat)
  (hK:∀a',StFits N w0 own σ0 lo0 hi0 {s with tmps:=s.tmps.set d (.val v)} a' w→wpOps P ops Q rest a' w):wpOps P ops Q (k :: rest) a w :=
 op_fit hs hd hlen hh (fun o hop=>by simp only[execOp,hop,Instr.loadAt,hx,Instr.sureAddr,Sem.run_bind,Sem.run_pure,Result.andThen_ok,hv]) rest hK
theorem op_else{k d:Nat}{op:Op}(hs:sigOf ops k=some (op,some d,true))(hd:d<N)(hlen:s.tmps.length=N)(hh:StFits N w0 own σ0 lo0 hi0 s a w){v:Value}{w':World}(hrun:∀o:Oper,o.op=op→(execOp a.eval o).run P w=.ok (.value v) w')
  (h1:w'.os=w.os) (h2:w'.tape=w.tape) (h3:w'.output=w.output) (hg:w.heap.size≤w'.heap.size) (hsame:∀j,j<w.heap.size→w'.heap[j]?=w.heap[j]?) (rest:List Nat)
  (hK:∀a' (own1:Nat→Prop) (σ1:Nat→Option Nat),(∀r,own1 r→r<w.heap.size)→(∀b,s.lo≤b→b<s.hi→σ1 b=none)→StFits N w' own1 σ1 s.lo s.hi {s with tmps:=s.tmps.set d (.val v)} a' w'→(∀s' a' w2,StFits N w' own1 σ1 s.lo s.hi s' a' w2→StFits N w0 own σ0 lo0 hi0 s' a' w2)→wpOps P ops Q rest a' w'):wpOps P ops Q (k :: rest) a w:=by
 obtain ⟨o,ho,hop,hdst,hgd⟩:=sigOf_some hs
 rw[wpOps_cons]
 unfold wpOp
 rw[ho]
 simp only
 rw[if_pos (by simp[Region.wanted,hgd])]
 refine .inl ?_
 unfold Oper.wp
 rw[hrun o hop,Oper.upon_value,hdst]
 obtain ⟨own1,σ1,k1,⟨k2,kn⟩,k3⟩:=hh.elsewhere h1 h2 h3 hg hsame
 exact hK _ own1 σ1 k1 kn (k2.put hd hlen v) k3
theorem call_else {k d f : Nat} {c : Call} {fn : Func} (hs : sigOf ops k = some (.call c, some d, true)) (hd : d < N) (hlen : s.tmps.length = N) (hh : StFits N w0 own σ0 lo0 hi0 s a w) (hcal : c.callee = .value (.func f)) (hfn : P.funcs[f]? = some fn) (hb : (fn.body.isSome && !fn.name == "runtime.NumGoroutine") = true)
  {args:Array Value} (hargs:c.args.map a.eval=args) {X:Value→World→Prop} (hc:Calls P f args w fun e w'=>∃v,e=.returned v∧RowKit.Below w.heap.size w w'∧X v w') (rest:List Nat)
  (hK:∀v a' w' (own1:Nat→Prop) (σ1:Nat→Option Nat),X v w'→RowKit.Below w.heap.size w w'→(∀r,own1 r→r<w.heap.size)→(∀b,s.lo≤b→b<s.hi→σ1 b=none)→StFits N w' own1 σ1 s.lo s.hi {s with tmps:=s.tmps.set d (.val v)} a' w'→(∀s' a' w2,StFits N w' own1 σ1 s.lo s.hi s' a' w2→StFits N w0 own σ0 lo0 hi0 s' a' w2)→wpOps P ops Q rest a' w'):wpOps P ops Q (k :: rest) a w:=by
 obtain ⟨o,ho,hop,hdst,hgd⟩:=sigOf_some hs
 rw[wpOps_cons]
 unfold wpOp
 rw[ho]
 simp only
 rw[if_pos (by simp[Region.wanted,hgd])]
 refine .inl ?_
 unfold Oper.wp
 have hexec:(execOp a.eval o).run P w=.ok (.enter f args) w:=by
  have e:a.eval (.func f)=.func (.func f) #[] #[]:=rfl
  simp only[execOp,hop,resolve,hcal,e,Deferred.ofValue,Sem.run_bind,Sem.run_pure,Result.andThen_ok,invoke,run_callFunc hfn hb,hargs,Array.empty_append,Array.append_empty]
 rw[hexec]
 simp only[Oper.upon]
 refine Calls.mono hc fun e w' he=>?_
 obtain ⟨v,rfl,g1,g2⟩:=he
 simp only
 rw[hdst]
 obtain ⟨own1,σ1,k1,⟨k2,kn⟩,k3⟩:=hh.elsewhere g1.os g1.tape g1.output g1.size fun j hj=>g1.block j hj
 exact hK v _ w' own1 σ1 g2 g1 k1 kn (k2.put hd hlen v) k3
theorem ops_fit{call:CallR (Bool×St)}{qf:FuncId→Bool}(hcall:CallOk P call){l:List Oper}{k:Nat}{s1:St}(keep G:List Nat)(h:opsRun P call qf N ops l s [] (endOps keep G)=some (true,s1))
  (hl:∀j o,l[j]?=some o→ops[k+j]?=some o) (hh:StFits N w0 own σ0 lo0 hi0 s a w) (rest:List Nat) (hK:∀a' w',StFits N w0 own σ0 lo0 hi0 s1 a' w'→wpOps P ops Q rest a' w'):wpOps P ops Q ((List.range l.length).map (k+·)++rest) a w:=by
 obtain ⟨items,s',h1,h2,h3,h4,h5,h6,_,_⟩:=opsRun_sound hcall l k s [] h hl
 obtain ⟨σ,u,hf,hs,hn,hle0,hout0,hlo0,hhi0⟩:=hh
 obtain ⟨u',hc,hs'⟩:=h2 u hs
 have hb:=h5.bounds
 simp only[endOps,forceN_eq,Option.some.injEq,Prod.mk.injEq]at h1
 obtain ⟨hrm,rfl⟩:=h1
 have hrm:=Nat.le_of_ble_eq_true hrm
 have hwk:=dropSt_wk keep G s'
 have hix:items.map (·.i)=(List.range l.length).map (k+·):=by
  apply List.ext_getElem
  ·simp[h3]
  ·intro j hj1 hj2
   simp only[List.getElem_map,List.getElem_range]
   exact h4 j _ (List.getElem?_eq_getElem (by simpa using hj1))
 rw[← hix]
 have hfresh:Fresh items σ:=by
  intro it hit b hb1 hb2
  have :=hb.2 it hit
  exact hn b (by omega) (by omega)
 refine chain_rest items rest u u' σ a w hc hf hfresh h5.apart fun σ' a' w' hle hout hf'=>?_
 refine hK a' w' ⟨σ',_,(hf'.sub hs').weak hwk,Sub.refl _,fun b hb1 hb2=>?_,hle0.trans hle,fun b hb1 hb2=>hout b (hout0 b hb1 hb2) fun it hit=>?_,?_,?_⟩
 ·have hb1:s'.lo≤b:=hb1
  have hb2:b<s'.hi:=hb2
  refine hout b (hn b (by omega) (by omega)) fun it hit=>?_
  have :=hb.2 it hit
  omega
 ·have :=hb.2 it hit
  omega
 ·show lo0≤s'.lo
  omega
 ·show s'.hi≤hi0
  omega
end
end Go.Ab
namespace Go.Ab
open Go Go.Proofs
instance:Cod Crf where
 enc c:=.agg (List.toArray (CodL.encl c))
 dec v:=match v with
  | .agg a=>decAll Crf a.toList
  | _=>none
 law v a h:=by
  split at h
  ·rename_i x
   rw[← decAll_law h]
  ·cases h
structure StOps where
 rt:Int×Unit→Bool
 hp:CX→ByteArray×Unit→Bool
 he:CX→ByteArray×Unit→CX
 bp:StA→Bool
 bd:Bool→StA→Dr×Bool
 lk:CX→CX
 fi:CX→CX
 pl:CX→CX
 dp:Bool→Dr×Unit→V3×Bool
 ct:V4×V3×Unit→Two V4 V3
 wr:Tl×Unit→Two Fr Bool
 wp:Fr×Unit→Two ByteArray Bool
def gamSt(F:StOps):Gam:=[(87,S0 F.rt),(88,SM F.hp fun x a=>(unitV,F.he x a)),(89,Sc 57 F.bp F.bd),(90,ySM F.lk),(91,ySM F.fi),(92,ySM F.pl),(175,S 57 F.dp),(176,S0 F.ct),(177,S0 F.wr),(178,S0 F.wp)]
def cstE(F:StOps):Env:={gam:=gamSt F}
def tellT(s:Stp)(c:Crf)(k:Two V4 V3):Tl:=⟨s.tk,c.plan.mode,c.plan.faults,c.ack,c.err,c.rej,k.a,k.b⟩
def teB(F:StOps)(x:CX)(m:V3):ByteArray:=(F.wp ((F.wr (tellT x.1 x.2.1 (F.ct (x.2.1.guess.q,m,())),())).a,())).a
noncomputable def cstR:Nat→Code
 | 0=>Tryz.f25.body.getD .skip
 | k+1=>seqR (cstR k)
noncomputable def cstL(k:Nat):Code:=seqL (cstR k)
def crf0:Crf:=⟨false,0,⟨#[]⟩,⟨0,0,0,0,0,0⟩,false,⟨0,0,0,0,0,0,0⟩,⟨false,0,⟨0,0,0⟩,⟨0,0,0⟩⟩,⟨⟨0,0,0,0⟩,⟨0,0,0⟩,⟨⟨0,0,0,0,0,0⟩,⟨0,0,0,0,0,0⟩,⟨0,0,0,0,0,0⟩,⟨0,0,0,0,0,0⟩,⟨0,0,0,0,0,0⟩,⟨0,0,0,0,0,0⟩⟩⟩,0,0,0⟩
def csA:Nat:=4096
def csB:Nat:=4096+1*2^180
def csM:Nat:=4096+2*2^180
def csS:Nat:=4096+3*2^180
def csE:Nat:=4096+4*2^180
def stpAt(a m:Nat)(s:Stp):List AV:=.ptr a 0 :: .val (.int .i64 s.tk) :: .val (.int .i64 s.gap) :: .map m :: ((CodL.encl s.sky++(CodL.encl s.body++CodL.encl s.seen)).map AV.val)
def cstI(c:Crf)(tk:Int)(b:ByteArray):St:=gSt 106 [(1,.val (.int .i64 tk)),(2,.val (.string b)),(3,.ptr csA 0),(6,.ptr csB 0),(7,.val (.string ⟨#[]⟩))] [(csA,.row 44 (crfRow c)),(csB,.row 44 (crfRow crf0))] csM
def cstI1(c:Crf)(tk:Int)(b:ByteArray):St:=gSt 106 [(1,.val (.int .i64 tk)),(2,.val (.string b)),(3,.ptr csA 0),(6,.ptr csB 0),(7,.val (.string ⟨#[]⟩))] [(csA,.row 44 (crfRow c)),(csB,.row 44 (crfRow c))] csM
def cstZ(c:Crf)(b:ByteArray)(lo:Nat):St:=gSt 106 [(6,.ptr csB 0),(7,.val (.string b))] [(csB,.row 44 (crfRow c))] lo
def stp0(tk:Int):Stp:=⟨tk,0,⟨⟨0,0,0⟩,⟨0,0,0⟩⟩,⟨⟨0,0,0⟩,⟨0,0,0⟩⟩,⟨false,false,false,false,false,false,false,0⟩⟩
def cstM(c:Crf)(s:Stp)(o:Obj)(tk:Int)(b:ByteArray):St:=gSt 106 [(1,.val (.int .i64 tk)),(2,.val (.string b)),(3,.ptr csA 0),(6,.ptr csB 0),(7,.val (.string ⟨#[]⟩)),(8,.ptr csS 0)] [(csA,.row 44 (crfRow c)),(csB,.row 44 (crfRow crf0)),(csS,.row 145 (stpAt csA csM s)),(csM,.obj o)] csE
def rdg0:Rdg:=⟨0,0,⟨0,0,0⟩⟩
def rds0:Rds:=⟨false,rdg0,false,rdg0,false,rdg0⟩
def cstX(x:CX)(tk:Int)(b:ByteArray):St:=cstM x.2.1 x.1 (rdsObj x.2.2) tk b
def cstY(x:CX)(tk:Int):St:=gSt 106 [(1,.val (.int .i64 tk)),(3,.ptr csA 0),(6,.ptr csB 0),(7,.val (.string ⟨#[]⟩)),(8,.ptr csS 0)] [(csA,.row 44 (crfRow x.2.1)),(csB,.row 44 (crfRow crf0)),(csS,.row 145 (stpAt csA csM x.1)),(csM,.obj (rdsObj x.2.2))] csE
def gapD(tk ct:Int):Int:=IntKind.u64.wrap (IntKind.u64.wrap tk-IntKind.u64.wrap ct)
section
variable (F:StOps) (c:Crf) (tk:Int) (b:ByteArray) (x:CX) (o:Obj)
theorem cst_q0:gRun Tryz.prog (cstE F) 106 (cstL 0) (startS 106 [.val (Cod.enc c),.val (.int .i64 tk),.val (.string b)] []) [csA,csB] [1,2,3,6,7]=some (.normal,cstI c tk b):=by kernel_rfl
theorem cst_q1:gRun Tryz.prog (cstE F) 106 (cstL 1) (cstI c tk b) [csA,csB] [1,2,3,6,7]=bif !F.rt (tk,()) then some (.ret,cstI1 c tk b) else bif c.on then bif decide (tk≤c.tk) then some (.ret,cstI1 c tk b) else some (.normal,cstI c tk b) else some (.normal,cstI c tk b):=by kernel_rfl
theorem cst_q2:gRun Tryz.prog (cstE F) 106 (cstL 2) (cstI c tk b) [csA,csB,csS,csM] [1,2,3,6,7,8]=some (.normal,cstM c (stp0 tk) (.map #[] 0) tk b):=by kernel_rfl
theorem cst_q3:gRun Tryz.prog (cstE F) 106 (cstL 3) (cstX x tk b) [csA,csB,csS,csM] [1,2,3,6,7,8]=bif x.2.1.on then bif decide (gapD tk x.2.1.tk≥10) then bif decide (gapD tk x.2.1.tk≤10000) then some (.normal,cstX ({x.1 with gap:=IntKind.i64.wrap (gapD tk x.2.1.tk)},x.2.1,x.2.2) tk b) else some (.normal,cstX x tk b) else some (.normal,cstX x tk b) else some (.normal,cstX x tk b):=by kernel_rfl
theorem cst_q4:gRun Tryz.prog (cstE F) 106 (cstL 4) (cstX x tk b) [csA,csB,csS,csM] [1,2,3,6,7,8]=some (.normal,cstX ({x.1 with seen:={x.1.seen with gap:=x.1.gap==0}},x.2.1,x.2.2) tk b):=by kernel_rfl
theorem cst_q5:gRun Tryz.prog (cstE F) 106 (cstL 5) (cstX x tk b) [csA,csB,csS,csM] [1,3,6,7,8]=bif F.hp x (b,()) then some (.normal,cstY (F.he x (b,())) tk) else none:=by kernel_rfl
theorem cst_q6:gCut Tryz.prog (cstE F) 106 (cstL 6) (cstY x tk) csE [csA,csB,csS,csM] [1,3,6,7,8]=bif x.2.2.p3 then bif F.bp (x.2.1.drift,x.2.2.r3.v,x.2.2.r3.tk,()) then some (.normal,cstY (x.1,{x.2.1 with drift:=(F.bd false (x.2.1.drift,x.2.2.r3.v,x.2.2.r3.tk,())).1},x.2.2) tk) else none else some (.normal,cstY x tk):=by kernel_rfl
theorem cst_q7:gRun Tryz.prog (cstE F) 106 (cstL 7) (cstY x tk) [csA,csB,csS,csM] [1,3,6,7,8]=some (.normal,cstY (F.lk x) tk):=by kernel_rfl
theorem cst_q8:gRun Tryz.prog (cstE F) 106 (cstL 8) (cstY x tk) [csA,csB,csS,csM] [1,3,6,7,8]=bif x.2.1.plan.mode==2 then bif !x.1.seen.gap then some (.normal,cstY (F.fi x) tk) else some (.normal,cstY x tk) else some (.normal,cstY x tk):=by kernel_rfl
theorem cst_q9:gRun Tryz.prog (cstE F) 106 (cstL 9) (cstY x tk) [csA,csB,csS,csM] [1,3,6,7,8]=some (.normal,cstY (F.pl x) tk):=by kernel_rfl
theorem cst_q10:gRun Tryz.prog (cstE F) 106 (cstL 10) (cstY x tk) [csA,csB,csS,csM] [1,3,6,7,8]=some (.normal,cstY (x.1,{x.2.1 with on:=true,tk:=tk},x.2.2) tk):=by kernel_rfl
theorem cst_q11:gCut Tryz.prog (cstE F) 106 (cstR 11) (cstY x tk) csE [csB] [6,7]=bif x.2.1.plan.mode==0 then some (.ret,cstZ x.2.1 (teB F x (F.dp false (x.2.1.drift,())).1) csE) else some (.ret,cstZ x.2.1 (teB F x V3.zero) csE):=by kernel_rfl
theorem cst_k:okClean csE (cstY x tk)=true:=by kernel_rfl
end
end Go.Ab
namespace Go.Ab
open Go Go.Proofs
theorem f25_is:Tryz.prog.funcs[25]?=some Tryz.f25:=by kernel_rfl
theorem cst_is:Tryz.f25.body=some (.seq (cstL 0) (.seq (cstL 1) (.seq (cstL 2) (.seq (cstL 3) (.seq (cstL 4) (.seq (cstL 5) (.seq (cstL 6) (.seq (cstL 7) (.seq (cstL 8) (.seq (cstL 9) (.seq (cstL 10) (cstR 11))))))))))) ):=by kernel_rfl
theorem cst_N:Tryz.f25.ntmps=106:=by kernel_rfl
theorem cst_resZ(c:Crf)(b:ByteArray):resA Tryz.prog (cstZ c b csE) Tryz.f25.results.toList=some [.val (Cod.enc c),.val (.string b)]:=by kernel_rfl
theorem cst_resI(c:Crf)(tk:Int)(b:ByteArray):resA Tryz.prog (cstI1 c tk b) Tryz.f25.results.toList=some [.val (Cod.enc c),.val (.string ⟨#[]⟩)]:=by kernel_rfl
def gapV(c:Crf)(tk:Int):Int:=bif c.on then bif decide (gapD tk c.tk≥10) then bif decide (gapD tk c.tk≤10000) then IntKind.i64.wrap (gapD tk c.tk) else 0 else 0 else 0
def stp1(c:Crf)(tk:Int):Stp:={stp0 tk with gap:=gapV c tk,seen:={(stp0 tk).seen with gap:=gapV c tk==0}}
def lateX(c:Crf)(rt:Int×Unit→Bool)(tk:Int):Bool:=bif !rt (tk,()) then true else bif c.on then decide (tk≤c.tk) else false
def cstH(F:StOps)(c:Crf)(tk:Int)(b:ByteArray):CX:=F.he (stp1 c tk,c,rds0) (b,())
def cstD(F:StOps)(x:CX):CX:=bif x.2.2.p3 then (x.1,{x.2.1 with drift:=(F.bd false (x.2.1.drift,x.2.2.r3.v,x.2.2.r3.tk,())).1},x.2.2) else x
def cstF(F:StOps)(x:CX):CX:=bif x.2.1.plan.mode==2 then bif !x.1.seen.gap then F.fi x else x else x
def cstT(F:StOps)(x:CX):ByteArray:=bif x.2.1.plan.mode==0 then teB F x (F.dp false (x.2.1.drift,())).1 else teB F x V3.zero
def onX(tk:Int)(x:CX):CX:=(x.1,{x.2.1 with on:=true,tk:=tk},x.2.2)
def endX(F:StOps)(tk:Int)(x:CX):CX:=onX tk (F.pl (cstF F (F.lk (cstD F x))))
abbrev StpA:=Crf×Int×ByteArray×Unit
def stepO(F:StOps)(p:StpA):Two Crf ByteArray:=bif lateX p.1 F.rt p.2.1 then ⟨p.1,⟨#[]⟩⟩ else ⟨(endX F p.2.1 (cstH F p.1 p.2.1 p.2.2.1)).2.1,cstT F (endX F p.2.1 (cstH F p.1 p.2.1 p.2.2.1))⟩
def driftOk(F:StOps)(x:CX):Bool:=bif x.2.2.p3 then F.bp (x.2.1.drift,x.2.2.r3.v,x.2.2.r3.tk,()) else true
def stepPreO(F:StOps)(p:StpA):Bool:=bif lateX p.1 F.rt p.2.1 then true else F.hp (stp1 p.1 p.2.1,p.1,rds0) (p.2.2.1,())&&driftOk F (cstH F p.1 p.2.1 p.2.2.1)
section
variable {F:StOps} (hG:GamOk Tryz.prog (gamSt F)) (c:Crf) (tk:Int) (b:ByteArray)
include hG
theorem cst_p2:RunsTo Tryz.prog 106 (cstL 2) (cstI c tk b) .normal (cstX (stp0 tk,c,rds0) tk b):=by
 have h:=gRun_runs (E:=cstE F) hG (cst_q2 F c tk b)
 intro w0 own σ0 lo0 hi0 a w hst Q hQ
 refine h w0 own σ0 lo0 hi0 a w hst Q fun a' w' h'=>hQ a' w' ?_
 refine h'.retell csM (ob:=.map #[] 0) (ob1:=rdsObj rds0) (by kernel_rfl) (fun o ho=>?_) rfl (fun b c hb=>?_) rfl rfl
 ·have ho:o=.map #[] 0:=ho
  subst ho
  exact ⟨#[],0,rfl,List.Perm.nil⟩
 ·exact hget_last (r:=[(csA,.row 44 (crfRow _)),(csB,.row 44 (crfRow crf0)),(csS,.row 145 (stpAt csA csM (stp0 tk)))]) hb
theorem cst_p3:RunsTo Tryz.prog 106 (cstL 3) (cstX (stp0 tk,c,rds0) tk b) .normal (cstX ({stp0 tk with gap:=gapV c tk},c,rds0) tk b):=by
 have e:=cst_q3 F tk b (stp0 tk,c,rds0)
 dsimp only at e
 have e2:gRun Tryz.prog (cstE F) 106 (cstL 3) (cstX (stp0 tk,c,rds0) tk b) [csA,csB,csS,csM] [1,2,3,6,7,8]=some (.normal,cstX ({stp0 tk with gap:=gapV c tk},c,rds0) tk b):=by
  rw[e]
  unfold gapV
  cases c.on
  ·rfl
  ·cases decide (gapD tk c.tk≥10)
   ·rfl
   ·cases decide (gapD tk c.tk≤10000)<;>rfl
 exact gRun_runs (E:=cstE F) hG e2
theorem cst_p6(x:CX)(hd:driftOk F x=true):RunsTo Tryz.prog 106 (cstL 6) (cstY x tk) .normal (cstY (cstD F x) tk):=by
 have e:=cst_q6 F tk x
 unfold driftOk at hd
 unfold cstD
 cases hp:x.2.2.p3 with
 | true =>
  rw[hp]at e hd
  simp only[cond_true]at e hd
  rw[hd,cond_true]at e
  exact gCut_runs (E:=cstE F) hG e rfl (cst_k ..) rfl
 | false =>
  rw[hp]at e
  exact gCut_runs (E:=cstE F) hG e rfl (cst_k ..) rfl
theorem cst_p8(x:CX):RunsTo Tryz.prog 106 (cstL 8) (cstY x tk) .normal (cstY (cstF F x) tk):=by
 have e:=cst_q8 F tk x
 unfold cstF
 refine gRun_runs (E:=cstE F) hG (e.trans ?_)
 cases x.2.1.plan.mode==2
 ·rfl
 ·cases x.1.seen.gap<;>rfl
theorem cst_p11(x:CX):RunsTo Tryz.prog 106 (cstR 11) (cstY x tk) .ret (cstZ x.2.1 (cstT F x) csE):=by
 have e:=cst_q11 F tk x
 have e2:gCut Tryz.prog (cstE F) 106 (cstR 11) (cstY x tk) csE [csB] [6,7]=some (.ret,cstZ x.2.1 (cstT F x) csE):=by
  rw[e]
  unfold cstT
  cases x.2.1.plan.mode==0<;>rfl
 exact gCut_runs (E:=cstE F) hG e2 rfl (by kernel_rfl) rfl
theorem cst_late(h:lateX c F.rt tk=true):RunsTo Tryz.prog 106 (cstL 1) (cstI c tk b) .ret (cstI1 c tk b):=by
 have e:=cst_q1 F c tk b
 refine gRun_runs (E:=cstE F) hG (e.trans ?_)
 unfold lateX at h
 revert h
 cases F.rt (tk,())<;>cases c.on<;>cases decide (tk≤c.tk)<;>intro h<;>first | rfl | cases h
theorem cst_soon(h:lateX c F.rt tk=false):RunsTo Tryz.prog 106 (cstL 1) (cstI c tk b) .normal (cstI c tk b):=by
 have e:=cst_q1 F c tk b
 refine gRun_runs (E:=cstE F) hG (e.trans ?_)
 unfold lateX at h
 revert h
 cases F.rt (tk,())<;>cases c.on<;>cases decide (tk≤c.tk)<;>intro h<;>first | rfl | cases h
theorem cst_p5(x:CX)(h:F.hp x (b,())=true):RunsTo Tryz.prog 106 (cstL 5) (cstX x tk b) .normal (cstY (F.he x (b,())) tk):=by
 have e:=cst_q5 F tk b x
 rw[h,cond_true]at e
 exact gRun_runs (E:=cstE F) hG e
theorem cst_all(hl:lateX c F.rt tk=false)(hp:F.hp (stp1 c tk,c,rds0) (b,())=true)(hd:driftOk F (cstH F c tk b)=true) :
  RunsTo Tryz.prog 106 (.seq (cstL 0) (.seq (cstL 1) (.seq (cstL 2) (.seq (cstL 3) (.seq (cstL 4) (.seq (cstL 5) (.seq (cstL 6) (.seq (cstL 7) (.seq (cstL 8) (.seq (cstL 9) (.seq (cstL 10) (cstR 11)))))))))))) (startS 106 [.val (Cod.enc c),.val (.int .i64 tk),.val (.string b)] []) .ret
   (cstZ (endX F tk (cstH F c tk b)).2.1 (cstT F (endX F tk (cstH F c tk b))) csE):=by
 refine .seq (gRun_runs (E:=cstE F) hG (cst_q0 F c tk b)) (.seq (cst_soon hG c tk b hl) (.seq (cst_p2 hG c tk b) (.seq (cst_p3 hG c tk b) (.seq (gRun_runs (E:=cstE F) hG (cst_q4 F tk b _)) (.seq (cst_p5 hG tk b (stp1 c tk,c,rds0) hp) (.seq (cst_p6 hG tk _ hd) ?_))))))
 exact .seq (gRun_runs (E:=cstE F) hG (cst_q7 F tk _)) (.seq (cst_p8 hG tk _) (.seq (gRun_runs (E:=cstE F) hG (cst_q9 F tk _)) (.seq (gRun_runs (E:=cstE F) hG (cst_q10 F tk _)) (cst_p11 hG tk _))))
theorem okStep:SumOk Tryz.prog 25 (S0w (stepPreO F) (stepO F)):=by
 intro args cs r cs' hs
 obtain ⟨⟨c,tk,b,_⟩,hp,rfl,rfl,rfl,rfl⟩:=S0w_sel hs
 unfold stepPreO at hp
 dsimp only at hp
 cases hl:lateX c F.rt tk with
 | true =>
  have e:stepO F (c,tk,b,())=⟨c,⟨#[]⟩⟩:=by unfold stepO;dsimp only;rw[hl];rfl
  rw[e]
  exact sum_runs f25_is cst_is cst_N (by show 3≤106;omega) (by simp) rfl rfl rfl (.inr rfl) (.seq (gRun_runs (E:=cstE F) hG (cst_q0 F c tk b)) (RunsTo.seqR (cst_late hG c tk b hl))) (cst_resI ..) rfl rfl (fun _ _ h=>by simp at h) rfl rfl
 | false =>
  rw[hl,cond_false,Bool.and_eq_true]at hp
  have e:stepO F (c,tk,b,())=⟨(endX F tk (cstH F c tk b)).2.1,cstT F (endX F tk (cstH F c tk b))⟩:=by unfold stepO;dsimp only;rw[hl];rfl
  rw[e]
  exact sum_runs f25_is cst_is cst_N (by show 3≤106;omega) (by simp) rfl rfl rfl (.inr rfl) (cst_all hG c tk b hl hp.1 hp.2) (cst_resZ ..) rfl rfl (fun _ _ h=>by simp at h) rfl rfl
end
end Go.Ab
namespace Go.Ab
open Go Go.Proofs
structure N8 where
 n:Nat
instance:Cod N8 where
 enc x:=.int .u8 x.n
 dec v:=match v with | .int .u8 (.ofNat n)=>some ⟨n⟩ | _=>none
 law v a h:=by split at h<;>simp_all;subst h;rfl
def idxV(p:ByteArray×N8×Unit):Int:=Lib.indexByte p.1.data.toList p.2.1.n.toUInt8
noncomputable def iC:Code:=Tryz.f241.body.getD .skip
noncomputable def iR0:Code:=seqL iC
noncomputable def iO:Array Oper:=regO (seqL (seqR iC))
theorem iC_is:Tryz.f241.body=some (.seq iR0 (.seq (.region 1 iO false) .ret)):=by kernel_rfl
def iS(s:ByteArray)(c:Int):St:=mkSt 8 [0,1] [.string s,.int .u8 c] [] [] [] 4096 frH frT
def iT(s:ByteArray)(c:Int):St:=mkSt 8 [5,6] [.string s,.int .u8 c] [] [] [] 4096 frH frT
def iE(r:Int):St:=mkSt 8 [4] [.int .i64 r] [] [] [] 4096 frH frT
theorem ir0(s:ByteArray)(c:Int):frRun [] 8 iR0 ⟨[Value.string s,.int .u8 c].map .val++List.replicate (8-[Value.string s,.int .u8 c].length) (.val undef),[],4096,frH,frT,[]⟩ [] [0,1]=some (.normal,iS s c):=by kernel_rfl
theorem zf22_is:Tryz.prog.funcs[252]?=some Tryz.f252:=by kernel_rfl
theorem f22_n : (Tryz.f252.name == "runtime.NumGoroutine") = false := by kernel_rfl
theorem f22_b:Tryz.f252.body.isNone=true:=by kernel_rfl
theorem f22_x:Extern.findNext Tryz.f252=none:=by kernel_rfl
theorem f22_e:Extern.find Tryz.f252=some Extern.BytealgIndexByte.indexByte:=by kernel_rfl
def cIdx:Call:={callee:=.value (.func 252),args:=#[.tmp 5,.tmp 6],argTypes:=#[9,5]}
theorem ig2:sigOf iO 2=some (.call cIdx,some 7,true):=by kernel_rfl
theorem ign:List.range iO.size=(List.range (iO.toList.take 2).length).map (0+·)++(2 :: ((List.range (iO.toList.drop 3).length).map (3+·)++[])):=by kernel_rfl
theorem ir1(s:ByteArray)(c:Int):frOps 8 iO (iO.toList.take 2) (iS s c) [] [5,6]=some (true,iT s c):=by kernel_rfl
theorem ir2(s:ByteArray)(c r:Int):frOps 8 iO (iO.toList.drop 3) {iT s c with tmps:=(iT s c).tmps.set 7 (.val (.int .i64 r))} [] [4]=some (true,iE r):=by kernel_rfl
theorem io1(s:ByteArray)(c:Int):okNamed (iS s c)=true:=by kernel_rfl
theorem io2(s:ByteArray)(c:Int):okNamed (iT s c)=true:=by kernel_rfl
theorem io3(r:Int):okNamed (iE r)=true:=by kernel_rfl
theorem il2(s:ByteArray)(c:Int):(iT s c).tmps.length=8:=by kernel_rfl
theorem ires(r:Int):resA Tryz.prog (iE r) Tryz.f241.results.toList=some [.val (.int .i64 r)]:=by kernel_rfl
theorem zf21_is:Tryz.prog.funcs[241]?=some Tryz.f241:=by kernel_rfl
theorem idx_calls(s:ByteArray)(c:Nat)(w:World):Calls Tryz.prog 241 #[.string s,.int .u8 c] w fun e w'=>∃v,e=.returned v∧RowKit.Below w.heap.size w w'∧v=.int .i64 (Lib.indexByte s.data.toList c.toUInt8):=by
 refine calls_of_wp zf21_is iC_is ?_
 have hst:=Stand.start (N:=8) [.string s,.int .u8 c] w 4096 frH frT (by simp)
 refine wp_seq ((runs_drop frCall _ _ (ir0 s c)).stand (io1 ..) hst fun a1 w1 h1=>?_)
 refine wp_seq (wp_region ?_)
 rw[ign]
 refine ops_stand (frCall _) (qf:=isSum ([]:Gam)) [] _ (ir1 s c) (fun _ _ hj=>take_at hj) (io2 ..) h1 _ fun a2 w2 h2=>?_
 refine op_here ig2 (by omega) (il2 ..) h2 (v:=.int .i64 (Lib.indexByte s.data.toList c.toUInt8)) (fun o ho=>?_) _ fun a3 h3=>?_
 ·have hx:a2.eval (.tmp 5)=.string s:=h2.eval (t:=5) rfl
  have hy:a2.eval (.tmp 6)=.int .u8 c:=h2.eval (t:=6) rfl
  have e:a2.eval (.func 252)=.func (.func 252) #[] #[]:=rfl
  have hargs:cIdx.args.map a2.eval=#[.string s,.int .u8 c]:=by simp[cIdx,hx,hy]
  have hcal:cIdx.callee=.value (.func 252):=rfl
  have hrun:=run_callFunc_extern (P:=Tryz.prog) zf22_is f22_n f22_b f22_x f22_e #[.string s,.int .u8 (c:Int)] w2
  rw[Lib.run_indexByteString]at hrun
  simp only[execOp,ho,resolve,hcal,e,Deferred.ofValue,Sem.run_bind,Sem.run_pure,Result.andThen_ok,invoke,hargs,Array.empty_append,Array.append_empty,hrun,Int.toNat_natCast]
 refine ops_stand (frCall _) (qf:=isSum ([]:Gam)) [] _ (ir2 s c _) (fun _ _ hj=>drop_at hj) (io3 ..) h3 [] fun a4 w4 h4=>?_
 obtain ⟨y1,y2,y3⟩:=h4.results (P:=Tryz.prog) (fn:=Tryz.f241) (ires _)
 exact wp_ret (bodyPost_ret y1 y2 ⟨_,rfl,y3.below,rfl⟩)
theorem okIdx21:SumOk Tryz.prog 241 (S0w (fun _=>true) idxV):=S0w_of fun a w _=>idx_calls a.1 a.2.1.n w
theorem idx20(pre:ByteArray×N8×Unit→Bool)(g:ByteArray×N8×Unit→Int)(s:ByteArray)(c:N8):fnSum Tryz.prog {gam:=[(241,S0w pre g)]} [] 20 207 [.val (.string s),.val (.int .u8 c.n)] []=bif pre (s,c,()) then some (.val (.int .i64 (g (s,c,()))),[]) else none:=by kernel_rfl
theorem okIdx:SumOk Tryz.prog 207 (S0w (fun _=>true) idxV):=by
 have hG:GamOk Tryz.prog [(241,S0w (fun _=>true) idxV)]:=.cons okIdx21 .nil
 refine S0w_of fun a w _=>?_
 obtain ⟨s,c,_⟩:=a
 exact Calls.mono (calls_of_sum (E:={gam:=[(241,S0w (fun _=>true) idxV)]}) hG (d:=20) (f:=207) (vals:=[.string s,.int .u8 c.n]) (v:=Cod.enc (idxV (s,c,()))) ((idx20 _ _ s c).trans rfl) w) fun e w' h=>⟨_,h.1,h.2,rfl⟩
end Go.Ab
