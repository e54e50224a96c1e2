/- A part of the proofs: lemmas, no statement of their own; no condition. -/
import Derived.Test.YtoocjipllmkjcaaGreatGFxB
namespace Go.Ab
open Go Go.Proofs
theorem above173(a b:Wd):fnSum Tryz.prog {gam:=[]} [] 20 127 [.val (Cod.enc a),.val (Cod.enc b)] [] =
  bif decide (a.h>b.h) then some (.val (.bool true),[]) else bif a.h==b.h then some (.val (.bool (decide (a.l>b.l))),[]) else some (.val (.bool false),[]):=by kernel_rfl
def abV(p:Wd×Wd×Unit):Bool:=decide (p.1.h>p.2.1.h)||(p.1.h==p.2.1.h&&decide (p.1.l>p.2.1.l))
theorem ok173:SumOk Tryz.prog 127 (S0 abV):=by
 refine S0_ok (E:={gam:=[]}) GamOk.nil 20 fun p=>?_
 obtain ⟨a,b,_⟩:=p
 refine (above173 a b).trans ?_
 unfold abV
 dsimp only
 cases decide (a.h>b.h)<;>cases a.h==b.h<;>rfl
def sqSl:Slots:=[(6,.int .u64),(7,.int .i64)]
def sqFx:List (Nat×Nat×Nat):=[(5,3064991081731777716716694054300618367237478244367208448,0)]
def sqRows:Rows':=[(4096,2,[.i64]),(3064991081731777716716694054300618367237478244367208448,185,[.u64,.u64])]
def sqG:List Nat:=8 :: nums 22 18
def sqSt(r i a h l:Int)(c:Con)(x:Nat→AV)(lo hi step:Nat):St:=lrSt 40 sqSl sqFx sqG c sqRows [r,i,a,h,l] x lo hi step
def bitAt(r i:Int):Int:=IntKind.u64.wrap (r+shI 1 i)
theorem sqRound(mp:U6×U6×Unit→Bool)(mv:U6×U6×Unit→Wd)(ab:Wd×Wd×Unit→Bool)(r i a h l:Int)(c:Con)(x:Nat→AV)(lo hi step:Nat) :
  run Tryz.prog (callN Tryz.prog {gam:=[(125,S0c mp mv),(127,S0 ab)]} 1) 40 {quiet:=isSum [(125,S0c mp mv),(127,S0 ab)]} [] 50 (Ex×St) (loopOf (blkOf Tryz.f157 0)) (sqSt r i a h l c x lo hi step) (fun e s'=>some (e,maskSt sqG s')) =
   bif decide (i≥0) then bif decide (i<0) then none else
    bif mp (⟨bitAt r i⟩,⟨bitAt r i⟩,()) then
     bif !ab (⟨(mv (⟨bitAt r i⟩,⟨bitAt r i⟩,())).h,(mv (⟨bitAt r i⟩,⟨bitAt r i⟩,())).l⟩,⟨h,l⟩,()) then some (.normal,sqSt (bitAt r i) (IntKind.i64.wrap (i-1)) a h l c x lo hi step)
     else some (.normal,sqSt r (IntKind.i64.wrap (i-1)) a h l c x lo hi step)
    else none
   else some (.exit 0,sqSt r i a h l c x lo hi step):=by kernel_rfl
def nmSl:Slots:=[(10,.int .u64),(11,.int .i64)]
def nmFx:List (Nat×Nat×Nat):=[(9,3064991081731777716716694054300618367237478244367208448,0)]
def nmRows:Rows':=[(4096,2,[.i64,.i64,.i64]),(3064991081731777716716694054300618367237478244367208448,185,[.u64,.u64])]
def nmG:List Nat:=12 :: nums 37 18
def nmSt(r i a b c' h l:Int)(c:Con)(x:Nat→AV)(lo hi step:Nat):St:=lrSt 55 nmSl nmFx nmG c nmRows [r,i,a,b,c',h,l] x lo hi step
theorem nmTmps:Tryz.f39.ntmps=55:=by kernel_rfl
theorem sqTmps:Tryz.f157.ntmps=40:=by kernel_rfl
theorem nmRound(mp:U6×U6×Unit→Bool)(mv:U6×U6×Unit→Wd)(ab:Wd×Wd×Unit→Bool)(r i a b c' h l:Int)(c:Con)(x:Nat→AV)(lo hi step:Nat) :
  run Tryz.prog (callN Tryz.prog {gam:=[(125,S0c mp mv),(127,S0 ab)]} 1) 55 {quiet:=isSum [(125,S0c mp mv),(127,S0 ab)]} [] 50 (Ex×St) (loopOf (blkOf Tryz.f39 0)) (nmSt r i a b c' h l c x lo hi step) (fun e s'=>some (e,maskSt nmG s')) =
   bif decide (i≥0) then bif decide (i<0) then none else
    bif mp (⟨bitAt r i⟩,⟨bitAt r i⟩,()) then
     bif !ab (⟨(mv (⟨bitAt r i⟩,⟨bitAt r i⟩,())).h,(mv (⟨bitAt r i⟩,⟨bitAt r i⟩,())).l⟩,⟨h,l⟩,()) then some (.normal,nmSt (bitAt r i) (IntKind.i64.wrap (i-1)) a b c' h l c x lo hi step)
     else some (.normal,nmSt r (IntKind.i64.wrap (i-1)) a b c' h l c x lo hi step)
    else none
   else some (.exit 0,nmSt r i a b c' h l c x lo hi step):=by kernel_rfl
end Go.Ab
namespace Go.Ab
open Go Go.Proofs
def sqPostV(R:Int→Int→Int→Int→Int→Int):List Int→List Int
 | [r,i,a,h,l]=>[R r i a h l,-1,a,h,l]
 | xs=>xs
def nmPostV(R:Int→Int→Int→Int→Int):List Int→List Int
 | [r,i,a,b,c,h,l]=>[R r i h l,-1,a,b,c,h,l]
 | xs=>xs
theorem sqrt139(mp:U6×U6×Unit→Bool)(mv:U6×U6×Unit→Wd)(gv:Bool→U6×Bool×Unit→Int×Bool)(p:List Int→Bool)(R:Int→Int→Int→Int→Int→Int)(a:Int)(f:Bool) :
  fnSum Tryz.prog {gam:=[(125,S0c mp mv),(128,S 59 gv)]} [(0,lrHint 40 sqSl sqFx sqG sqRows p (sqPostV R))] 20 157 [.ptr 0 0,.val (.int .i64 a)] (row 59 f) =
  rtk [a] f fun f=>bif !!f then some (.val (.int .i64 0),row 59 f) else bif decide (a<0) then some (.val (.int .i64 0),row 59 true) else
   bif mp (⟨IntKind.u64.wrap a⟩,⟨1099511627776⟩,()) then
    let m:=mv (⟨IntKind.u64.wrap a⟩,⟨1099511627776⟩,())
    bif p [0,51,a,m.h,m.l]then some (.val (.int .i64 (gv f (⟨R 0 51 a m.h m.l⟩,false,())).1),row 59 (gv f (⟨R 0 51 a m.h m.l⟩,false,())).2) else none
   else none:=by kernel_rfl
theorem norm142(mp:U6×U6×Unit→Bool)(mv:U6×U6×Unit→Wd)(av:Wd×Wd×Unit→Wd)(sz:Int×Unit→U6)(gv:Bool→U6×Bool×Unit→Int×Bool)(p:List Int→Bool)(R:Int→Int→Int→Int→Int)(a b c:Int)(f:Bool) :
  fnSum Tryz.prog {gam:=[(125,S0c mp mv),(128,S 59 gv),(124,S0 av),(126,S0 sz)]} [(0,lrHint 55 nmSl nmFx nmG nmRows p (nmPostV R))] 20 39 [.ptr 0 0,.val (.int .i64 a),.val (.int .i64 b),.val (.int .i64 c)] (row 59 f) =
  rtk [a,b,c] f fun f=>bif !!f then some (.val (.int .i64 0),row 59 f) else
   let sq:=fun (x:Int)=>mv (⟨(sz (x,())).n⟩,⟨(sz (x,())).n⟩,())
   bif mp (⟨(sz (a,())).n⟩,⟨(sz (a,())).n⟩,()) then bif mp (⟨(sz (b,())).n⟩,⟨(sz (b,())).n⟩,()) then bif mp (⟨(sz (c,())).n⟩,⟨(sz (c,())).n⟩,()) then
    let s:=av (⟨(sq a).h,(sq a).l⟩,⟨(sq b).h,(sq b).l⟩,())
    let m:=av (⟨s.h,s.l⟩,⟨(sq c).h,(sq c).l⟩,())
    bif p [0,62,a,b,c,m.h,m.l]then some (.val (.int .i64 (gv f (⟨R 0 62 m.h m.l⟩,false,())).1),row 59 (gv f (⟨R 0 62 m.h m.l⟩,false,())).2) else none
   else none else none else none:=by kernel_rfl
theorem sqBlocks:blocksOf (Tryz.f157.body.getD .skip)=[(0,.loop (loopOf (blkOf Tryz.f157 0))),(1,blkOf Tryz.f157 1)]:=by kernel_rfl
theorem nmBlocks:blocksOf (Tryz.f39.body.getD .skip)=[(0,.loop (loopOf (blkOf Tryz.f39 0))),(1,blkOf Tryz.f39 1)]:=by kernel_rfl
end Go.Ab
namespace Go.Ab
open Go Go.Proofs
def bpre(r i h l:Int):Bool:=word h&&(word l&&decide (-1≤i∧i≤62∧0≤r∧r+2^(i+1).toNat≤9223372036854775808))
def bR(r i h l:Int):Int:=isqB (i+1).toNat r (h*18446744073709551616+l)
theorem notAb{t h l:Int}(hl:word l=true):(!abV (⟨t*t / 18446744073709551616,t*t % 18446744073709551616⟩,⟨h,l⟩,()))=decide (t*t≤h*18446744073709551616+l):=by
 simp only[word,decide_eq_true_eq]at hl
 unfold abV
 dsimp only
 rw[Bool.eq_iff_iff,Bool.not_eq_true',Bool.or_eq_false_iff,Bool.and_eq_false_iff,decide_eq_true_eq,decide_eq_false_iff_not,decide_eq_false_iff_not,beq_eq_false_iff_ne]
 generalize t*t=N at *
 omega
theorem bStep{r i h l:Int}(hp:bpre r i h l=true) :
  (i≥0→¬ i<0∧mulPre (⟨bitAt r i⟩,⟨bitAt r i⟩,())=true∧IntKind.i64.wrap (i-1)=i-1 ∧
   ∀r',r'=(bif !abV (⟨(timesVal (⟨bitAt r i⟩,⟨bitAt r i⟩,())).h,(timesVal (⟨bitAt r i⟩,⟨bitAt r i⟩,())).l⟩,⟨h,l⟩,()) then bitAt r i else r) →
   bpre r' (i-1) h l=true∧bR r' (i-1) h l=bR r i h l∧(i-1+1).toNat<(i+1).toNat) ∧
  (¬ i≥0→i=-1∧bR r i h l=r):=by
 simp only[bpre,Bool.and_eq_true,decide_eq_true_eq]at hp
 obtain ⟨hh,hl,h1,h2,h3,h4⟩:=hp
 refine ⟨fun h0=>?_,fun h0=>?_⟩
 ·obtain ⟨n,rfl⟩:∃n:Nat,i=n:=⟨i.toNat,by omega⟩
  have e1:((n:Int)+1).toNat=n+1:=by omega
  have e2:((n:Int)-1+1).toNat=n:=by omega
  have hk:=two_pow_pos n
  have hs:=two_pow_succ n
  rw[e1]at h4
  have hb:bitAt r n=r+2^n:=by
   have:shI 1 n=1*2^n % 18446744073709551616:=shI_eq 1 n (by omega)
   unfold bitAt
   rw[this,Int.one_mul,Int.emod_eq_of_lt (by omega) (by omega),wrap_u64_id (by omega) (by omega)]
  rw[hb]
  refine ⟨by omega,by simp only[mulPre,word,Bool.and_eq_true,decide_eq_true_eq];omega,wrap_i64_id (by omega) (by omega),fun r' hr'=>?_⟩
  have hr':r'=bif decide ((r+2^n)*(r+2^n)≤h*18446744073709551616+l) then r+2^n else r:=by
   rw[hr',← notAb hl];rfl
  refine ⟨?_,?_,by omega⟩
  ·simp only[bpre,Bool.and_eq_true,decide_eq_true_eq,e2]
   refine ⟨hh,hl,by omega,by omega,?_⟩
   cases hc:decide ((r+2^n)*(r+2^n)≤h*18446744073709551616+l)<;>rw[hc]at hr'<;>simp only[cond_true,cond_false]at hr'<;>subst hr'<;>omega
  ·simp only[bR,e1,e2,isqB]
   subst hr'
   cases decide ((r+2^n)*(r+2^n)≤h*18446744073709551616+l)<;>rfl
 ·have:i=-1:=by omega
  subst this
  exact ⟨rfl,rfl⟩
def sqpre:List Int→Bool
 | [r,i,_,h,l]=>bpre r i h l
 | _=>false
def sqpost:List Int→List Int:=sqPostV fun r i _ h l=>bR r i h l
def nmpre:List Int→Bool
 | [r,i,_,_,_,h,l]=>bpre r i h l
 | _=>false
def nmpost:List Int→List Int:=nmPostV bR
theorem hcallS:∀β,CallOk Tryz.prog (callN Tryz.prog {gam:=[(125,S0c mulPre timesVal),(127,S0 abV)]} 1 β):=callN_ok (.cons ok172 (.cons ok173 .nil)) 1
def sqHints:Hints:=[(0,lrHint 40 sqSl sqFx sqG sqRows sqpre sqpost)]
def nmHints:Hints:=[(0,lrHint 55 nmSl nmFx nmG nmRows nmpre nmpost)]
theorem sqFit:∀fn c,Tryz.prog.funcs[157]?=some fn→fn.body=some c→HFit Tryz.prog fn.ntmps sqHints c:=by
 intro fn c hf hb
 rw[Tryz.func157]at hf
 cases hf
 have hc:Tryz.f157.body.getD .skip=c:=by rw[hb];rfl
 rw[sqTmps]
 have hL:=sqBlocks
 rw[hc]at hL
 refine HFit.of fun p hp h hh s s' hs=>?_
 rw[hL]at hp
 simp only[List.mem_cons,List.not_mem_nil,or_false]at hp
 rcases hp with rfl | rfl
 ·have:h=lrHint 40 sqSl sqFx sqG sqRows sqpre sqpost:=(Option.some.inj hh).symm
  subst this
  refine lr_ok hcallS (F:=50) (wy:={quiet:=isSum [(125,S0c mulPre timesVal),(127,S0 abV)]}) (fun xs=>(xs.getD 1 0+1).toNat) ?_ s s' hs
  intro xs hlen hpre cc x lo hi step
  obtain ⟨r,i,a,hw,l,rfl⟩:∃r i a h l,xs=[r,i,a,h,l]:=by
   match xs,hlen with
   | [a,b,c,d,e],_=>exact ⟨a,b,c,d,e,rfl⟩
  have hr:=sqRound mulPre timesVal abV r i a hw l cc x lo hi step
  unfold sqSt at hr
  rw[hr]
  obtain ⟨h1,h2⟩:=bStep (r:=r) (i:=i) (h:=hw) (l:=l) hpre
  by_cases hge:i≥0
  ·obtain ⟨k1,k2,k3,k4⟩:=h1 hge
   simp only[hge,k1,k2,k3,decide_true,decide_false,cond_true,cond_false]
   have key:∀r',bpre r' (i-1) hw l=true∧bR r' (i-1) hw l=bR r i hw l∧(i-1+1).toNat<(i+1).toNat →
     ∃ys,ys.length=shLen sqSl+rowLen sqRows∧sqpre ys=true∧(ys.getD 1 0+1).toNat<([r,i,a,hw,l].getD 1 0+1).toNat∧sqpost ys=sqpost [r,i,a,hw,l] ∧
      (some (Ex.normal,lrSt 40 sqSl sqFx sqG cc sqRows [r',i-1,a,hw,l] x lo hi step):Option (Ex×St))=some (.normal,lrSt 40 sqSl sqFx sqG cc sqRows ys x lo hi step):=by
    intro r' hr'
    exact ⟨[r',i-1,a,hw,l],rfl,hr'.1,by simpa only[List.getD_cons_succ,List.getD_cons_zero]using hr'.2.2,by simp only[sqpost,sqPostV,hr'.2.1],rfl⟩
   cases hc:!abV (⟨(timesVal (⟨bitAt r i⟩,⟨bitAt r i⟩,())).h,(timesVal (⟨bitAt r i⟩,⟨bitAt r i⟩,())).l⟩,⟨hw,l⟩,())<;>rw[hc]at k4
   ·exact .inl (key _ (k4 _ rfl))
   ·exact .inl (key _ (k4 _ rfl))
  ·obtain ⟨rfl,k2⟩:=h2 hge
   simp only[hge,decide_false,cond_false]
   refine .inr ?_
   simp only[sqpost,sqPostV,k2]
 ·simp[findH,sqHints]at hh
theorem nmFit:∀fn c,Tryz.prog.funcs[39]?=some fn→fn.body=some c→HFit Tryz.prog fn.ntmps nmHints c:=by
 intro fn c hf hb
 rw[Tryz.func39]at hf
 cases hf
 have hc:Tryz.f39.body.getD .skip=c:=by rw[hb];rfl
 rw[nmTmps]
 have hL:=nmBlocks
 rw[hc]at hL
 refine HFit.of fun p hp h hh s s' hs=>?_
 rw[hL]at hp
 simp only[List.mem_cons,List.not_mem_nil,or_false]at hp
 rcases hp with rfl | rfl
 ·have:h=lrHint 55 nmSl nmFx nmG nmRows nmpre nmpost:=(Option.some.inj hh).symm
  subst this
  refine lr_ok hcallS (F:=50) (wy:={quiet:=isSum [(125,S0c mulPre timesVal),(127,S0 abV)]}) (fun xs=>(xs.getD 1 0+1).toNat) ?_ s s' hs
  intro xs hlen hpre cc x lo hi step
  obtain ⟨r,i,a,b,c,hw,l,rfl⟩:∃r i a b c h l,xs=[r,i,a,b,c,h,l]:=by
   match xs,hlen with
   | [a,b,c,d,e,f,g],_=>exact ⟨a,b,c,d,e,f,g,rfl⟩
  have hr:=nmRound mulPre timesVal abV r i a b c hw l cc x lo hi step
  unfold nmSt at hr
  rw[hr]
  obtain ⟨h1,h2⟩:=bStep (r:=r) (i:=i) (h:=hw) (l:=l) hpre
  by_cases hge:i≥0
  ·obtain ⟨k1,k2,k3,k4⟩:=h1 hge
   simp only[hge,k1,k2,k3,decide_true,decide_false,cond_true,cond_false]
   have key:∀r',bpre r' (i-1) hw l=true∧bR r' (i-1) hw l=bR r i hw l∧(i-1+1).toNat<(i+1).toNat →
     ∃ys,ys.length=shLen nmSl+rowLen nmRows∧nmpre ys=true∧(ys.getD 1 0+1).toNat<([r,i,a,b,c,hw,l].getD 1 0+1).toNat∧nmpost ys=nmpost [r,i,a,b,c,hw,l] ∧
      (some (Ex.normal,lrSt 55 nmSl nmFx nmG cc nmRows [r',i-1,a,b,c,hw,l] x lo hi step):Option (Ex×St))=some (.normal,lrSt 55 nmSl nmFx nmG cc nmRows ys x lo hi step):=by
    intro r' hr'
    exact ⟨[r',i-1,a,b,c,hw,l],rfl,hr'.1,by simpa only[List.getD_cons_succ,List.getD_cons_zero]using hr'.2.2,by simp only[nmpost,nmPostV,hr'.2.1],rfl⟩
   cases hc:!abV (⟨(timesVal (⟨bitAt r i⟩,⟨bitAt r i⟩,())).h,(timesVal (⟨bitAt r i⟩,⟨bitAt r i⟩,())).l⟩,⟨hw,l⟩,())<;>rw[hc]at k4
   ·exact .inl (key _ (k4 _ rfl))
   ·exact .inl (key _ (k4 _ rfl))
  ·obtain ⟨rfl,k2⟩:=h2 hge
   simp only[hge,decide_false,cond_false]
   refine .inr ?_
   simp only[nmpost,nmPostV,k2]
 ·simp[findH,nmHints]at hh
theorem S_okH{α ω:Type}[Args α][Cod ω]{P:Program}{E:Env}(hG:GamOk P E.gam){hB:Hints}{f:FuncId}{e:TypeId}{g:Bool→α→ω×Bool}(hfit:∀fn c,P.funcs[f]?=some fn→fn.body=some c→HFit P fn.ntmps hB c)(d:Nat)
  (h:∀b a,fnSum P E hB d f (.ptr 0 0 :: Args.encs a) (row e b)=some (.val (Cod.enc (g b a).1),row e (g b a).2)):SumOk P f (S e g):=by
 refine sumOk_ofH hG hfit fun args cs r cs' hs=>?_
 obtain ⟨b,a,rfl,rfl,rfl,rfl⟩:=S_sel hs
 exact ⟨by simp[row],d,h b a⟩
theorem Sc_okH{α ω:Type}[Args α][Cod ω]{P:Program}{E:Env}(hG:GamOk P E.gam){hB:Hints}{f:FuncId}{e:TypeId}{pre:α→Bool}{g:Bool→α→ω×Bool}(hfit:∀fn c,P.funcs[f]?=some fn→fn.body=some c→HFit P fn.ntmps hB c)(d:Nat)
  (h:∀b a,pre a=true→fnSum P E hB d f (.ptr 0 0 :: Args.encs a) (row e b)=some (.val (Cod.enc (g b a).1),row e (g b a).2)):SumOk P f (Sc e pre g):=by
 refine sumOk_ofH hG hfit fun args cs r cs' hs=>?_
 obtain ⟨b,a,hp,rfl,rfl,rfl,rfl⟩:=Sc_sel hs
 exact ⟨by simp[row],d,h b a hp⟩
theorem gvU_num{f:Bool}{q:Int}(h0:0≤q)(h1:q<9223372036854775808):gvU f (⟨q⟩,false,())=bif decide (q>4611686018427387904) then (0,true) else (q,f):=by
 unfold gvU
 dsimp only
 rw[wrap_i64_id (z:=q) (by omega) (by omega)]
 rfl
theorem ok139:SumOk Tryz.prog 157 (S 59 (op1 fsqrt)):=by
 have hG:GamOk Tryz.prog [(125,S0c mulPre timesVal),(128,S 59 gvU)]:=.cons ok172 (.cons ok174 .nil)
 refine S_okH (E:={gam:=[(125,S0c mulPre timesVal),(128,S 59 gvU)]}) hG (hB:=sqHints) sqFit 20 fun f p=>?_
 obtain ⟨a,_⟩:=p
 refine ((sqrt139 mulPre timesVal gvU sqpre (fun r i _ h l=>bR r i h l) a f).trans (rtk_eq _ _ _)).trans ?_
 show _=some (AV.val (Cod.enc (fsqrt f a).1),row 59 (fsqrt f a).2)
 unfold fsqrt
 cases hb:(f||!nums? [a]) with
 | true=>rfl
 | false =>
  simp only[Bool.or_eq_false_iff,Bool.not_eq_false',nums?,Bool.and_true,num_iff]at hb
  obtain ⟨rfl,ha⟩:=hb
  by_cases h0:a<0
  ·simp only[h0,decide_true,cond_true];rfl
  ·have hw:IntKind.u64.wrap a=a:=wrap_u64_id (by omega) (by omega)
   have hm:mulPre (⟨a⟩,⟨1099511627776⟩,())=true:=by simp only[mulPre,word,Bool.and_eq_true,decide_eq_true_eq];omega
   have hv:timesVal (⟨a⟩,⟨1099511627776⟩,())=⟨a*1099511627776 / 18446744073709551616,a*1099511627776 % 18446744073709551616⟩:=rfl
   obtain ⟨b0,b1⟩:=sqrt_bound (a:=a) (by omega) (by omega)
   obtain ⟨i0,i1⟩:=isq_num b0 b1
   simp only[h0,hw,hm,hv,decide_false,cond_false,cond_true,Bool.not_false,Bool.not_true]
   have hpre:sqpre [0,51,a,a*1099511627776 / 18446744073709551616,a*1099511627776 % 18446744073709551616]=true:=by
    have e102:(2:Int)^102=5070602400912917605986812821504:=by decide
    simp only[sqpre,bpre,word,Bool.and_eq_true,decide_eq_true_eq]
    refine ⟨by omega,by omega,by omega,by omega,by omega,by decide⟩
   have hR:bR 0 51 (a*1099511627776 / 18446744073709551616) (a*1099511627776 % 18446744073709551616)=isq (a*1099511627776):=by
    unfold bR
    rw[show a*1099511627776 / 18446744073709551616*18446744073709551616+a*1099511627776 % 18446744073709551616=a*1099511627776 by omega]
    exact isqB_52 b0 (Int.lt_of_lt_of_le b1 (by decide))
   rw[hpre,hR,cond_true,gvU_num i0 (by omega),show decide (isq (a*1099511627776)>4611686018427387904)=false by simp;omega]
   rfl
theorem ok142:SumOk Tryz.prog 39 (S 59 (op3 fnorm)):=by
 have hG:GamOk Tryz.prog [(125,S0c mulPre timesVal),(128,S 59 gvU),(124,S0 adV),(126,S0 szU)]:=.cons ok172 (.cons ok174 (.cons ok178 (.cons ok179 .nil)))
 refine S_okH (E:={gam:=[(125,S0c mulPre timesVal),(128,S 59 gvU),(124,S0 adV),(126,S0 szU)]}) hG (hB:=nmHints) nmFit 20 fun f p=>?_
 obtain ⟨a,b,c,_⟩:=p
 refine ((norm142 mulPre timesVal adV szU gvU nmpre bR a b c f).trans (rtk_eq _ _ _)).trans ?_
 show _=some (AV.val (Cod.enc (fnorm f a b c).1),row 59 (fnorm f a b c).2)
 unfold fnorm
 cases hb:(f||!nums? [a,b,c]) with
 | true=>rfl
 | false =>
  obtain ⟨rfl,ha,hb',hc⟩:=nums3 hb
  obtain ⟨a3,a4⟩:=iabs_num ha
  obtain ⟨b3,b4⟩:=iabs_num hb'
  obtain ⟨c3,c4⟩:=iabs_num hc
  obtain ⟨a5,a6⟩:=num_sq ha
  obtain ⟨b5,b6⟩:=num_sq hb'
  obtain ⟨c5,c6⟩:=num_sq hc
  have hm:∀x:Int,0≤x→x≤4611686018427387904→mulPre (⟨x⟩,⟨x⟩,())=true:=by
   intro x h0 h1
   simp only[mulPre,word,Bool.and_eq_true,decide_eq_true_eq];omega
  have hok:∀N:Int,0≤N→N≤63802943797675961899382738893456539648→(Wd.mk (N / 18446744073709551616) (N % 18446744073709551616)).ok=true∧(Wd.mk (N / 18446744073709551616) (N % 18446744073709551616)).val=N:=by
   intro N h0 h1
   simp only[Wd.ok,Wd.val,word,Bool.and_eq_true,decide_eq_true_eq];omega
  have hsum:∀M N:Int,0≤M→0≤N→M+N≤63802943797675961899382738893456539648→adV (⟨M / 18446744073709551616,M % 18446744073709551616⟩,⟨N / 18446744073709551616,N % 18446744073709551616⟩,())=⟨(M+N) / 18446744073709551616,(M+N) % 18446744073709551616⟩:=by
   intro M N h0 h1 h2
   obtain ⟨k1,k2⟩:=adV_val (hok M h0 (by omega)).1 (hok N h1 (by omega)).1
   rw[(hok M h0 (by omega)).2,(hok N h1 (by omega)).2,Int.emod_eq_of_lt (a:=M+N) (by omega) (by omega)]at k2
   generalize adV (⟨M / 18446744073709551616,M % 18446744073709551616⟩,⟨N / 18446744073709551616,N % 18446744073709551616⟩,())=D at *
   obtain ⟨dh,dl⟩:=D
   simp only[Wd.ok,Wd.val,word,Bool.and_eq_true,decide_eq_true_eq]at k1 k2
   congr 1<;>omega
  have ht:∀x:Int,timesVal (⟨x⟩,⟨x⟩,())=⟨x*x / 18446744073709551616,x*x % 18446744073709551616⟩:=fun x=>rfl
  simp only[szU_num ha,szU_num hb',szU_num hc,hm _ a3 a4,hm _ b3 b4,hm _ c3 c4,ht,iabs_sq,Bool.not_false,Bool.not_true,cond_false,cond_true,hsum _ _ a5 b5 (by omega),hsum (a*a+b*b) (c*c) (by omega) c5 (by omega)]
  generalize hW:a*a+b*b+c*c=W at *
  have e126:(2:Int)^126=85070591730234615865843651857942052864:=by decide
  have e63:(2:Int)^63=9223372036854775808:=by decide
  obtain ⟨i0,i1,_,_⟩:=isq_spec (W:=W) (by omega) (by omega)
  have hpre:nmpre [0,62,a,b,c,W / 18446744073709551616,W % 18446744073709551616]=true:=by
   simp only[nmpre,bpre,word,Bool.and_eq_true,decide_eq_true_eq]
   refine ⟨by omega,by omega,by omega,by omega,by omega,by decide⟩
  have hR:bR 0 62 (W / 18446744073709551616) (W % 18446744073709551616)=isq W:=by
   unfold bR
   rw[show W / 18446744073709551616*18446744073709551616+W % 18446744073709551616=W by omega]
   rfl
  rw[hpre,hR,cond_true,gvU_num i0 (by omega)]
  cases decide (isq W>4611686018427387904)<;>rfl
end Go.Ab
namespace Go.Ab
open Go Go.Proofs
def opsF:Ops:={add:=fadd,sub:=fsub,mul:=fmul,div:=fdiv,mod:=fmod,part:=fpart,norm:=fnorm,sqrt:=fsqrt}
def gamN(o:Ops):Gam:=[(63,S 57 (op2 o.add)),(60,S 57 (op2 o.sub)),(64,S 57 (op2 o.mul)),(140,S 57 (op2 o.div)),(217,S 57 (op2 o.mod)),(65,S 57 (op3 o.part)),(195,S 57 (op3 o.norm)),(141,S 57 (op1 o.sqrt)),(131,S 57 failV),
 (76,S 59 (op2 o.add)),(77,S 59 (op2 o.sub)),(80,S 59 (op2 o.mul)),(114,S 59 (op2 o.div)),(185,S 59 (op2 o.mod)),(82,S 59 (op3 o.part)),(39,S 59 (op3 o.norm)),(157,S 59 (op1 o.sqrt)),(113,S 59 failV)]
theorem gamN_ok:GamOk Tryz.prog (gamN opsF) :=
 .cons ok124 (.cons ok127 (.cons ok121 (.cons ok135 (.cons ok56 (.cons ok116 (.cons ok141 (.cons ok137 (.cons ok115
 (.cons ok125 (.cons ok128 (.cons ok122 (.cons ok140 (.cons ok131 (.cons ok118 (.cons ok142 (.cons ok139 (.cons ok117 .nil)))))))))))))))))
end Go.Ab
namespace Go.Ab
open Go Go.Proofs
theorem pull2{ω:Type}[Cod ω]{c g:Bool}{F:Bool→ω×Bool}{e:TypeId}:(bif c then some (AV.val (Cod.enc (F true).1),row e (F true).2) else some (AV.val (Cod.enc (F g).1),row e (F g).2)) =
    some (AV.val (Cod.enc (F (bif c then true else g)).1),row e (F (bif c then true else g)).2):=by cases c<;>rfl
def vnorm(o:Ops)(b:Bool)(p:V3×Unit):Int×Bool:=o.norm b p.1.x p.1.y p.1.z
def vunit0(o:Ops)(u:V3)(n:Int)(f:Bool):V3×Bool:=each3 f (fun b=>o.div b u.x n) (fun b=>o.div b u.y n) (fun b=>o.div b u.z n)
def vunitN(o:Ops)(u:V3)(n:Int)(f:Bool):V3×Bool:=done3 (vunit0 o u n f)
def vunit(o:Ops)(b:Bool)(p:V3×Unit):V3×Bool :=
  vunitN o p.1 (vnorm o b p).1 (bif decide ((vnorm o b p).1<1048576) then true else (vnorm o b p).2)
theorem norm66(o:Ops)(b:Bool)(u:V3):fnSum Tryz.prog {gam:=gamN o} [] 20 137 [.ptr 0 0,.val (Cod.enc u)] (row 57 b)=some (.val (Cod.enc (vnorm o b (u,())).1),row 57 (vnorm o b (u,())).2):=by kernel_rfl
theorem norm67(o:Ops)(b:Bool)(u:V3):fnSum Tryz.prog {gam:=gamN o} [] 20 100 [.ptr 0 0,.val (Cod.enc u)] (row 59 b)=some (.val (Cod.enc (vnorm o b (u,())).1),row 59 (vnorm o b (u,())).2):=by kernel_rfl
def unitT(o:Ops)(e:TypeId)(u:V3)(n:Int)(f:Bool):Option (AV×List Con) :=
  bif (vunitN o u n f).2 then some (.val (Cod.enc V3.zero),row e (vunitN o u n f).2) else some (.val (Cod.enc (vunit0 o u n f).1),row e (vunitN o u n f).2)
theorem unitT_eq(o:Ops)(e:TypeId)(u:V3)(n:Int)(f:Bool):unitT o e u n f=some (.val (Cod.enc (vunitN o u n f).1),row e (vunitN o u n f).2):=pull
theorem unit68(o:Ops)(b:Bool)(u:V3):fnSum Tryz.prog {gam:=gamN o} [] 20 51 [.ptr 0 0,.val (Cod.enc u)] (row 57 b)=some (.val (Cod.enc (vunit o b (u,())).1),row 57 (vunit o b (u,())).2):=by
  refine Eq.trans (?_:_=bif decide ((vnorm o b (u,())).1<1048576) then unitT o 57 u (vnorm o b (u,())).1 true else unitT o 57 u (vnorm o b (u,())).1 (vnorm o b (u,())).2) ?_
  · kernel_rfl
  · rw[unitT_eq,unitT_eq];exact pull2
theorem unit69(o:Ops)(b:Bool)(u:V3):fnSum Tryz.prog {gam:=gamN o} [] 20 68 [.ptr 0 0,.val (Cod.enc u)] (row 59 b)=some (.val (Cod.enc (vunit o b (u,())).1),row 59 (vunit o b (u,())).2):=by
  refine Eq.trans (?_:_=bif decide ((vnorm o b (u,())).1<1048576) then unitT o 59 u (vnorm o b (u,())).1 true else unitT o 59 u (vnorm o b (u,())).1 (vnorm o b (u,())).2) ?_
  · kernel_rfl
  · rw[unitT_eq,unitT_eq];exact pull2
theorem ok66:SumOk Tryz.prog 137 (S 57 (vnorm opsF)):=S_ok gamN_ok 20 fun b a=>norm66 opsF b a.1
theorem ok67:SumOk Tryz.prog 100 (S 59 (vnorm opsF)):=S_ok gamN_ok 20 fun b a=>norm67 opsF b a.1
theorem ok68:SumOk Tryz.prog 51 (S 57 (vunit opsF)):=S_ok gamN_ok 20 fun b a=>unit68 opsF b a.1
theorem ok69:SumOk Tryz.prog 68 (S 59 (vunit opsF)):=S_ok gamN_ok 20 fun b a=>unit69 opsF b a.1
structure VOps where
  add:Bool→V3×V3×Unit→V3×Bool
  sub:Bool→V3×V3×Unit→V3×Bool
  scale:Bool→V3×Int×Unit→V3×Bool
  cross:Bool→V3×V3×Unit→V3×Bool
  dot:Bool→V3×V3×Unit→Int×Bool
  norm:Bool→V3×Unit→Int×Bool
  unit:Bool→V3×Unit→V3×Bool
def gamV(v:VOps):Gam:=[(146,S 57 v.add),(132,S 57 v.sub),(144,S 57 v.scale),(145,S 57 v.cross),(198,S 57 v.dot),(137,S 57 v.norm),(51,S 57 v.unit),
  (85,S 59 v.add),(158,S 59 v.sub),(119,S 59 v.scale),(120,S 59 v.cross),(121,S 59 v.dot),(100,S 59 v.norm),(68,S 59 v.unit)]
def vopsF:VOps:={add:=vop fadd,sub:=vop fsub,scale:=vscale fmul,cross:=vcross opsM,dot:=vdotP opsM,norm:=vnorm opsF,unit:=vunit opsF}
theorem ok50:SumOk Tryz.prog 146 (S 57 (vop fadd)):=S_ok gamA_ok 20 fun b a=>add50 ops0 b a.1 a.2.1
theorem ok51:SumOk Tryz.prog 85 (S 59 (vop fadd)):=S_ok gamA_ok 20 fun b a=>add51 ops0 b a.1 a.2.1
theorem ok52:SumOk Tryz.prog 132 (S 57 (vop fsub)):=S_ok gamA_ok 20 fun b a=>sub52 ops0 b a.1 a.2.1
theorem ok53:SumOk Tryz.prog 158 (S 59 (vop fsub)):=S_ok gamA_ok 20 fun b a=>sub53 ops0 b a.1 a.2.1
theorem gamV_ok:GamOk Tryz.prog (gamV vopsF) :=
  .cons ok50 (.cons ok52 (.cons ok44 (.cons ok48 (.cons ok46 (.cons ok66 (.cons ok68 (.cons ok51 (.cons ok53 (.cons ok45 (.cons ok49 (.cons ok47 (.cons ok67 (.cons ok69 .nil)))))))))))))
def vpartsAt(v:VOps)(x y:V3)(b:Bool):Two Int Int×Bool :=
  (⟨(v.norm (v.cross b (x,y,())).2 ((v.cross b (x,y,())).1,())).1,(v.dot (v.norm (v.cross b (x,y,())).2 ((v.cross b (x,y,())).1,())).2 (x,y,())).1⟩,
   (v.dot (v.norm (v.cross b (x,y,())).2 ((v.cross b (x,y,())).1,())).2 (x,y,())).2)
def vparts0(v:VOps)(b:Bool)(p:V3×V3×Unit):Two Int Int×Bool :=
  vpartsAt v (v.unit b (p.1,())).1 (v.unit (v.unit b (p.1,())).2 (p.2.1,())).1 (v.unit (v.unit b (p.1,())).2 (p.2.1,())).2
def vparts(v:VOps)(b:Bool)(p:V3×V3×Unit):Two Int Int×Bool:=(bif (vparts0 v b p).2 then ⟨0,0⟩ else (vparts0 v b p).1,(vparts0 v b p).2)
theorem parts74(v:VOps)(b:Bool)(x y:V3):fnSum Tryz.prog {gam:=gamV v} [] 20 222 [.ptr 0 0,.val (Cod.enc x),.val (Cod.enc y)] (row 57 b)=some (.val (Cod.enc (vparts v b (x,y,())).1),row 57 (vparts v b (x,y,())).2):=by
  refine Eq.trans (?_:_=bif (vparts0 v b (x,y,())).2 then some (.val (Cod.enc (Two.mk (0:Int) (0:Int))),row 57 (vparts0 v b (x,y,())).2) else some (.val (Cod.enc (vparts0 v b (x,y,())).1),row 57 (vparts0 v b (x,y,())).2)) pull
  kernel_rfl
theorem ok74:SumOk Tryz.prog 222 (S 57 (vparts vopsF)):=S_ok gamV_ok 20 fun b a=>parts74 vopsF b a.1 a.2.1
end Go.Ab
namespace Go.Ab
open Go Go.Proofs
abbrev w64(x:Int):Int:=IntKind.i64.wrap x
def serN(o:Ops)(fi u:Int):List Int→Int×Bool→Int×Bool
 | [],z=>z
 | n :: r,z =>
  let m:=o.mul z.2 u z.1
  let p:=o.part m.2 m.1 1 (w64 (w64 (w64 (n+fi)-1)*w64 (n+fi)))
  serN o fi u r (o.sub p.2 1099511627776 p.1)
def serU(o:Ops)(b:Bool)(t fi:Int):Int×Bool :=
 let u:=o.mul b t t
 serN o fi u.1 [20,18,16,14,12,10,8,6,4,2] (1099511627776,u.2)
def serS(o:Ops)(b:Bool)(t:Int):Int×Bool:=o.mul (serU o b t 1).2 t (serU o b t 1).1
def serF(o:Ops)(b:Bool)(p:Int×Int×Unit):Int×Bool:=bif p.2.1==1 then o.mul (serU o b p.1 p.2.1).2 p.1 (serU o b p.1 p.2.1).1 else serU o b p.1 p.2.1
theorem ser253(o:Ops)(b:Bool)(t fi:Int):fnSum Tryz.prog {gam:=gamN o} [] 20 253 [.ptr 0 0,.val (.int .i64 t),.val (.int .i64 fi)] (row 57 b) =
  bif fi==1 then some (.val (Cod.enc (o.mul (serU o b t fi).2 t (serU o b t fi).1).1),row 57 (o.mul (serU o b t fi).2 t (serU o b t fi).1).2) else some (.val (Cod.enc (serU o b t fi).1),row 57 (serU o b t fi).2):=by kernel_rfl
theorem sin234(o:Ops)(b:Bool)(t:Int):fnSum Tryz.prog {gam:=gamN o} [] 20 234 [.ptr 0 0,.val (.int .i64 t)] (row 59 b) =
  some (.val (Cod.enc (serS o b t).1),row 59 (serS o b t).2):=by kernel_rfl
theorem cos235(o:Ops)(b:Bool)(t:Int):fnSum Tryz.prog {gam:=gamN o} [] 20 235 [.ptr 0 0,.val (.int .i64 t)] (row 59 b) =
  some (.val (Cod.enc (serU o b t 0).1),row 59 (serU o b t 0).2):=by kernel_rfl
theorem ok253:SumOk Tryz.prog 253 (S 57 (serF opsF)):=S_ok gamN_ok 20 fun b a=>by
 refine (ser253 opsF b a.1 a.2.1).trans ?_
 unfold serF
 cases a.2.1==1<;>rfl
theorem ok234:SumOk Tryz.prog 234 (S 59 fun b (p:Int×Unit)=>serS opsF b p.1):=S_ok gamN_ok 20 fun b a=>sin234 opsF b a.1
theorem ok235:SumOk Tryz.prog 235 (S 59 fun b (p:Int×Unit)=>serU opsF b p.1 0):=S_ok gamN_ok 20 fun b a=>cos235 opsF b a.1
end Go.Ab
namespace Go.Ab
open Go Go.Proofs
theorem turn244(md:Bool→Int×Int×Unit→Int×Bool)(se:Bool→Int×Int×Unit→Int×Bool)(b:Bool)(a q:Int):fnSum Tryz.prog {gam:=[(217,S 57 md),(253,S 57 se)]} [] 20 244 [.ptr 0 0,.val (.int .i64 a),.val (.int .i64 q)] (row 57 b)=(bif bif false then true else (md b (a,6908435304716,())).snd then some (AV.val (.int .i64 0),[Con.row 57 [.val (.bool (md b (a,6908435304716,())).snd)]]) else bif decide ((w64 (w64 ((md b (a,6908435304716,())).fst.tdiv 1727108826179)+q)).tmod 4>1) then some (AV.val (.int .i64 (w64 (0-(se (md b (a,6908435304716,())).snd ((md b (a,6908435304716,())).fst.tmod 1727108826179,w64 (1-((w64 (w64 ((md b (a,6908435304716,())).fst.tdiv 1727108826179)+q)).tmod 4).tmod 2),())).fst))),[Con.row 57 [AV.val (Value.bool (se (md b (a,6908435304716,())).snd ((md b (a,6908435304716,())).fst.tmod 1727108826179,w64 (1-((w64 (w64 ((md b (a,6908435304716,())).fst.tdiv 1727108826179)+q)).tmod 4).tmod 2),())).snd)]]) else some (AV.val (.int .i64 (se (md b (a,6908435304716,())).snd ((md b (a,6908435304716,())).fst.tmod 1727108826179,w64 (1-((w64 (w64 ((md b (a,6908435304716,())).fst.tdiv 1727108826179)+q)).tmod 4).tmod 2),())).fst),[Con.row 57 [AV.val (Value.bool (se (md b (a,6908435304716,())).snd ((md b (a,6908435304716,())).fst.tmod 1727108826179,w64 (1-((w64 (w64 ((md b (a,6908435304716,())).fst.tdiv 1727108826179)+q)).tmod 4).tmod 2),())).snd)]])):=by kernel_rfl
theorem sin183(md:Bool→Int×Int×Unit→Int×Bool)(sn cs:Bool→Int×Unit→Int×Bool)(b:Bool)(a:Int):fnSum Tryz.prog {gam:=[(185,S 59 md),(234,S 59 sn),(235,S 59 cs)]} [] 20 183 [.ptr 0 0,.val (.int .i64 a)] (row 59 b)=(bif (md b (a,6908435304716,())).snd then some (AV.val (.int .i64 0),[Con.row 59 [AV.val (Value.bool (md b (a,6908435304716,())).snd)]]) else bif w64 ((md b (a,6908435304716,())).fst.tdiv 1727108826179)==0 then some (AV.val (.int .i64 (sn (md b (a,6908435304716,())).snd (w64 ((md b (a,6908435304716,())).fst-w64 (w64 ((md b (a,6908435304716,())).fst.tdiv 1727108826179)*1727108826179)),())).fst),[Con.row 59 [AV.val (Value.bool (sn (md b (a,6908435304716,())).snd (w64 ((md b (a,6908435304716,())).fst-w64 (w64 ((md b (a,6908435304716,())).fst.tdiv 1727108826179)*1727108826179)),())).snd)]]) else bif w64 ((md b (a,6908435304716,())).fst.tdiv 1727108826179)==1 then some (AV.val (.int .i64 (cs (md b (a,6908435304716,())).snd (w64 ((md b (a,6908435304716,())).fst-w64 (w64 ((md b (a,6908435304716,())).fst.tdiv 1727108826179)*1727108826179)),())).fst),[Con.row 59 [AV.val (Value.bool (cs (md b (a,6908435304716,())).snd (w64 ((md b (a,6908435304716,())).fst-w64 (w64 ((md b (a,6908435304716,())).fst.tdiv 1727108826179)*1727108826179)),())).snd)]]) else bif w64 ((md b (a,6908435304716,())).fst.tdiv 1727108826179)==2 then some (AV.val (.int .i64 (w64 (0-(sn (md b (a,6908435304716,())).snd (w64 ((md b (a,6908435304716,())).fst-w64 (w64 ((md b (a,6908435304716,())).fst.tdiv 1727108826179)*1727108826179)),())).fst))),[Con.row 59 [AV.val (Value.bool (sn (md b (a,6908435304716,())).snd (w64 ((md b (a,6908435304716,())).fst-w64 (w64 ((md b (a,6908435304716,())).fst.tdiv 1727108826179)*1727108826179)),())).snd)]]) else some (AV.val (.int .i64 (w64 (0-(cs (md b (a,6908435304716,())).snd (w64 ((md b (a,6908435304716,())).fst-w64 (w64 ((md b (a,6908435304716,())).fst.tdiv 1727108826179)*1727108826179)),())).fst))),[Con.row 59 [AV.val (Value.bool (cs (md b (a,6908435304716,())).snd (w64 ((md b (a,6908435304716,())).fst-w64 (w64 ((md b (a,6908435304716,())).fst.tdiv 1727108826179)*1727108826179)),())).snd)]])):=by kernel_rfl
theorem cos184(md:Bool→Int×Int×Unit→Int×Bool)(sn cs:Bool→Int×Unit→Int×Bool)(b:Bool)(a:Int):fnSum Tryz.prog {gam:=[(185,S 59 md),(234,S 59 sn),(235,S 59 cs)]} [] 20 184 [.ptr 0 0,.val (.int .i64 a)] (row 59 b)=(bif (md b (a,6908435304716,())).snd then some (AV.val (.int .i64 0),[Con.row 59 [AV.val (Value.bool (md b (a,6908435304716,())).snd)]]) else bif w64 ((md b (a,6908435304716,())).fst.tdiv 1727108826179)==0 then some (AV.val (.int .i64 (cs (md b (a,6908435304716,())).snd (w64 ((md b (a,6908435304716,())).fst-w64 (w64 ((md b (a,6908435304716,())).fst.tdiv 1727108826179)*1727108826179)),())).fst),[Con.row 59 [AV.val (Value.bool (cs (md b (a,6908435304716,())).snd (w64 ((md b (a,6908435304716,())).fst-w64 (w64 ((md b (a,6908435304716,())).fst.tdiv 1727108826179)*1727108826179)),())).snd)]]) else bif w64 ((md b (a,6908435304716,())).fst.tdiv 1727108826179)==1 then some (AV.val (.int .i64 (w64 (0-(sn (md b (a,6908435304716,())).snd (w64 ((md b (a,6908435304716,())).fst-w64 (w64 ((md b (a,6908435304716,())).fst.tdiv 1727108826179)*1727108826179)),())).fst))),[Con.row 59 [AV.val (Value.bool (sn (md b (a,6908435304716,())).snd (w64 ((md b (a,6908435304716,())).fst-w64 (w64 ((md b (a,6908435304716,())).fst.tdiv 1727108826179)*1727108826179)),())).snd)]]) else bif w64 ((md b (a,6908435304716,())).fst.tdiv 1727108826179)==2 then some (AV.val (.int .i64 (w64 (0-(cs (md b (a,6908435304716,())).snd (w64 ((md b (a,6908435304716,())).fst-w64 (w64 ((md b (a,6908435304716,())).fst.tdiv 1727108826179)*1727108826179)),())).fst))),[Con.row 59 [AV.val (Value.bool (cs (md b (a,6908435304716,())).snd (w64 ((md b (a,6908435304716,())).fst-w64 (w64 ((md b (a,6908435304716,())).fst.tdiv 1727108826179)*1727108826179)),())).snd)]]) else some (AV.val (.int .i64 (sn (md b (a,6908435304716,())).snd (w64 ((md b (a,6908435304716,())).fst-w64 (w64 ((md b (a,6908435304716,())).fst.tdiv 1727108826179)*1727108826179)),())).fst),[Con.row 59 [AV.val (Value.bool (sn (md b (a,6908435304716,())).snd (w64 ((md b (a,6908435304716,())).fst-w64 (w64 ((md b (a,6908435304716,())).fst.tdiv 1727108826179)*1727108826179)),())).snd)]])):=by kernel_rfl
def circ(S U:Bool→Int→Int×Bool)(q:Int)(b:Bool)(a:Int):Int×Bool :=
 bif (fmod b a 6908435304716).2 then (0,true) else
  bif decide (((fmod b a 6908435304716).1 / 1727108826179+q) % 4=0) then S false ((fmod b a 6908435304716).1 % 1727108826179)
  else bif decide (((fmod b a 6908435304716).1 / 1727108826179+q) % 4=1) then U false ((fmod b a 6908435304716).1 % 1727108826179)
  else bif decide (((fmod b a 6908435304716).1 / 1727108826179+q) % 4=2) then (w64 (0-(S false ((fmod b a 6908435304716).1 % 1727108826179)).1),(S false ((fmod b a 6908435304716).1 % 1727108826179)).2)
  else (w64 (0-(U false ((fmod b a 6908435304716).1 % 1727108826179)).1),(U false ((fmod b a 6908435304716).1 % 1727108826179)).2)
theorem fmod_in{b:Bool}{a m r:Int}(hm:0<m)(h:fmod b a m=(r,false)):0≤r∧r<m:=by
 unfold fmod at h
 cases hc:(b||!nums? [a,m])
 ·rw[hc]at h
  have hd:decide (m≤0)=false:=decide_eq_false (by omega)
  rw[hd]at h
  simp only[cond_false,Prod.mk.injEq,and_true]at h
  subst h
  exact ⟨Int.emod_nonneg _ (by omega),Int.emod_lt_of_pos _ hm⟩
 ·rw[hc]at h
  simp at h
theorem w64_id{z:Int}(h1:-9223372036854775808≤z)(h2:z<9223372036854775808):w64 z=z:=wrap_i64_id h1 h2
theorem quarter{r:Int}(h0:0≤r)(h:r<6908435304716):r.tdiv 1727108826179=r / 1727108826179∧r.tmod 1727108826179=r % 1727108826179 ∧
  w64 (r-w64 (w64 (r / 1727108826179)*1727108826179))=r % 1727108826179∧(r / 1727108826179=0∨r / 1727108826179=1∨r / 1727108826179=2∨r / 1727108826179=3):=by
 refine ⟨Int.tdiv_eq_ediv_of_nonneg h0,Int.tmod_eq_emod_of_nonneg h0,?_,by omega⟩
 rw[w64_id (z:=r / 1727108826179) (by omega) (by omega),w64_id (z:=r / 1727108826179*1727108826179) (by omega) (by omega),w64_id (by omega) (by omega)]
 omega
section
variable {S U:Bool→Int→Int×Bool} (b:Bool) (a:Int)
theorem circ244{se:Bool→Int×Int×Unit→Int×Bool}(h1:∀t,se false (t,1,())=S false t)(h0:∀t,se false (t,0,())=U false t)(q:Int)(hq:q=0∨q=1) :
  fnSum Tryz.prog {gam:=[(217,Ab.S 57 (op2 fmod)),(253,Ab.S 57 se)]} [] 20 244 [.ptr 0 0,.val (.int .i64 a),.val (.int .i64 q)] (row 57 b)=some (.val (Cod.enc (circ S U q b a).1),row 57 (circ S U q b a).2):=by
 rw[turn244]
 unfold circ op2
 dsimp only
 rcases hr:fmod b a 6908435304716 with ⟨r,f⟩
 cases f with
 | true=>rfl
 | false =>
  obtain ⟨k0,k1⟩:=fmod_in (by omega) hr
  obtain ⟨e1,e2,e3,e4⟩:=quarter k0 k1
  dsimp only
  rw[e1,e2]
  rcases hq with rfl | rfl<;>rcases e4 with e | e | e | e<;>rw[e]<;>first
   | (rw[show w64 (1-((w64 (w64 0+0)).tmod 4).tmod 2)=1 from rfl,h1];rfl)
   | (rw[show w64 (1-((w64 (w64 1+0)).tmod 4).tmod 2)=0 from rfl,h0];rfl)
   | (rw[show w64 (1-((w64 (w64 2+0)).tmod 4).tmod 2)=1 from rfl,h1];rfl)
   | (rw[show w64 (1-((w64 (w64 3+0)).tmod 4).tmod 2)=0 from rfl,h0];rfl)
   | (rw[show w64 (1-((w64 (w64 0+1)).tmod 4).tmod 2)=0 from rfl,h0];rfl)
   | (rw[show w64 (1-((w64 (w64 1+1)).tmod 4).tmod 2)=1 from rfl,h1];rfl)
   | (rw[show w64 (1-((w64 (w64 2+1)).tmod 4).tmod 2)=0 from rfl,h0];rfl)
   | (rw[show w64 (1-((w64 (w64 3+1)).tmod 4).tmod 2)=1 from rfl,h1];rfl)
theorem circ183:fnSum Tryz.prog {gam:=[(185,Ab.S 59 (op2 fmod)),(234,Ab.S 59 fun b (p:Int×Unit)=>S b p.1),(235,Ab.S 59 fun b (p:Int×Unit)=>U b p.1)]} [] 20 183 [.ptr 0 0,.val (.int .i64 a)] (row 59 b)=some (.val (Cod.enc (circ S U 0 b a).1),row 59 (circ S U 0 b a).2):=by
 rw[sin183]
 unfold circ
 unfold op2
 dsimp only
 rcases hr:fmod b a 6908435304716 with ⟨r,f⟩
 cases f with
 | true=>rfl
 | false =>
  obtain ⟨h0,h1⟩:=fmod_in (by omega) hr
  obtain ⟨e1,e2,e3,e4⟩:=quarter h0 h1
  dsimp only
  rw[e1,e3]
  rcases e4 with e | e | e | e<;>rw[e]<;>rfl
theorem circ184:fnSum Tryz.prog {gam:=[(185,Ab.S 59 (op2 fmod)),(234,Ab.S 59 fun b (p:Int×Unit)=>S b p.1),(235,Ab.S 59 fun b (p:Int×Unit)=>U b p.1)]} [] 20 184 [.ptr 0 0,.val (.int .i64 a)] (row 59 b)=some (.val (Cod.enc (circ S U 1 b a).1),row 59 (circ S U 1 b a).2):=by
 rw[cos184]
 unfold circ
 unfold op2
 dsimp only
 rcases hr:fmod b a 6908435304716 with ⟨r,f⟩
 cases f with
 | true=>rfl
 | false =>
  obtain ⟨h0,h1⟩:=fmod_in (by omega) hr
  obtain ⟨e1,e2,e3,e4⟩:=quarter h0 h1
  dsimp only
  rw[e1,e3]
  rcases e4 with e | e | e | e<;>rw[e]<;>rfl
end
def serC(b:Bool)(t:Int):Int×Bool:=serU opsF b t 0
def sinF(b:Bool)(a:Int):Int×Bool:=circ (serS opsF) serC 0 b a
def cosF(b:Bool)(a:Int):Int×Bool:=circ (serS opsF) serC 1 b a
theorem serF_1(t:Int):serF opsF false (t,1,())=serS opsF false t:=by unfold serF serS;simp only[BEq.rfl,cond_true]
theorem serF_0(t:Int):serF opsF false (t,0,())=serC false t:=by unfold serF serC;simp only[show ((0:Int)==1)=false from rfl,cond_false]
def preQ(p:Int×Int×Unit):Bool:=decide (p.2.1=0)||decide (p.2.1=1)
def turnF(b:Bool)(p:Int×Int×Unit):Int×Bool:=circ (serS opsF) serC p.2.1 b p.1
theorem okTurn244:SumOk Tryz.prog 244 (Sc 57 preQ turnF):=Sc_ok (E:={gam:=[(217,Ab.S 57 (op2 fmod)),(253,Ab.S 57 (serF opsF))]}) (.cons ok56 (.cons ok253 .nil)) 20 fun b p hp=>by
 obtain ⟨a,q,u⟩:=p
 have hq:q=0∨q=1:=by simpa[preQ]using hp
 exact circ244 b a serF_1 serF_0 q hq
theorem okSin:SumOk Tryz.prog 214 (Ab.S 57 fun b (p:Int×Unit)=>sinF b p.1):=S_ok (E:={gam:=[(244,Sc 57 preQ turnF)]}) (.cons okTurn244 .nil) 20 fun b a=>by kernel_rfl
theorem okCos:SumOk Tryz.prog 215 (Ab.S 57 fun b (p:Int×Unit)=>cosF b p.1):=S_ok (E:={gam:=[(244,Sc 57 preQ turnF)]}) (.cons okTurn244 .nil) 20 fun b a=>by kernel_rfl
theorem okSinR:SumOk Tryz.prog 183 (Ab.S 59 fun b (p:Int×Unit)=>sinF b p.1):=S_ok (E:={gam:=[(185,Ab.S 59 (op2 fmod)),(234,Ab.S 59 fun b (p:Int×Unit)=>serS opsF b p.1),(235,Ab.S 59 fun b (p:Int×Unit)=>serC b p.1)]}) (.cons ok131 (.cons ok234 (.cons ok235 .nil))) 20 fun b a=>circ183 b a.1
theorem okCosR:SumOk Tryz.prog 184 (Ab.S 59 fun b (p:Int×Unit)=>cosF b p.1):=S_ok (E:={gam:=[(185,Ab.S 59 (op2 fmod)),(234,Ab.S 59 fun b (p:Int×Unit)=>serS opsF b p.1),(235,Ab.S 59 fun b (p:Int×Unit)=>serC b p.1)]}) (.cons ok131 (.cons ok234 (.cons ok235 .nil))) 20 fun b a=>circ184 b a.1
end Go.Ab
namespace Go.Ab
open Go Go.Proofs
def isTick(t:Int):Bool:=bif decide (0≤t) then decide (t≤157766400000) else false
theorem right40(t:Int):fnSum Tryz.prog {gam:=[]} [] 20 87 [.val (.int .i64 t)] []=bif decide (0≤t) then some (.val (.bool (decide (t≤157766400000))),[]) else some (.val (.bool false),[]):=by kernel_rfl
theorem right41(t:Int):fnSum Tryz.prog {gam:=[]} [] 20 94 [.val (.int .i64 t)] []=bif decide (0≤t) then some (.val (.bool (decide (t≤157766400000))),[]) else some (.val (.bool false),[]):=by kernel_rfl
theorem ok40:SumOk Tryz.prog 87 (S0 fun (p:Int×Unit)=>isTick p.1):=S0_ok (E:={gam:=[]}) GamOk.nil 20 fun a=>by
 refine (right40 a.1).trans ?_
 unfold isTick
 cases decide (0≤a.1)<;>rfl
theorem ok41:SumOk Tryz.prog 94 (S0 fun (p:Int×Unit)=>isTick p.1):=S0_ok (E:={gam:=[]}) GamOk.nil 20 fun a=>by
 refine (right41 a.1).trans ?_
 unfold isTick
 cases decide (0≤a.1)<;>rfl
def dayF(o:Ops)(t:Int)(f:Bool):Int×Bool:=o.part f 1099511627776 t 86400000
def vdays(o:Ops)(b:Bool)(p:Int×Unit):Int×Bool:=dayF o p.1 (bif !isTick p.1 then true else b)
def gamR(o:Ops)(rt:Int×Unit→Bool):Gam:=(87,S0 rt) :: (94,S0 rt) :: gamN o
theorem days38(o:Ops)(rt:Int×Unit→Bool)(b:Bool)(t:Int):fnSum Tryz.prog {gam:=gamR o rt} [] 20 213 [.ptr 0 0,.val (.int .i64 t)] (row 57 b) =
  bif !rt (t,()) then some (.val (.int .i64 (dayF o t true).1),row 57 (dayF o t true).2) else some (.val (.int .i64 (dayF o t b).1),row 57 (dayF o t b).2):=by kernel_rfl
theorem days39(o:Ops)(rt:Int×Unit→Bool)(b:Bool)(t:Int):fnSum Tryz.prog {gam:=gamR o rt} [] 20 182 [.ptr 0 0,.val (.int .i64 t)] (row 59 b) =
  bif !rt (t,()) then some (.val (.int .i64 (dayF o t true).1),row 59 (dayF o t true).2) else some (.val (.int .i64 (dayF o t b).1),row 59 (dayF o t b).2):=by kernel_rfl
theorem gamR_ok:GamOk Tryz.prog (gamR opsF fun p=>isTick p.1):=.cons ok40 (.cons ok41 gamN_ok)
theorem ok38:SumOk Tryz.prog 213 (S 57 (vdays opsF)):=S_ok gamR_ok 20 fun b a=>(days38 opsF (fun p=>isTick p.1) b a.1).trans (pull2 (F:=dayF opsF a.1))
theorem ok39:SumOk Tryz.prog 182 (S 59 (vdays opsF)):=S_ok gamR_ok 20 fun b a=>(days39 opsF (fun p=>isTick p.1) b a.1).trans (pull2 (F:=dayF opsF a.1))
def turnAt(o:Ops)(t:Int)(d:Int)(f:Bool):Int×Bool :=
 let n:=o.part f 6908435304716 (t.tmod 86400000) 86400000
 let a:=o.add n.2 5399947124839 n.1
 let m:=o.mul a.2 18914669620 d
 let s:=o.add m.2 a.1 m.1
 o.mod s.2 s.1 6908435304716
def vturn(o:Ops)(dy:Bool→Int×Unit→Int×Bool)(b:Bool)(p:Int×Unit):Int×Bool:=turnAt o p.1 (dy b p).1 (dy b p).2
theorem turn54(o:Ops)(dy:Bool→Int×Unit→Int×Bool)(b:Bool)(t:Int):fnSum Tryz.prog {gam:=(213,S 57 dy) :: gamN o} [] 20 220 [.ptr 0 0,.val (.int .i64 t)] (row 57 b) =
  some (.val (.int .i64 (vturn o dy b (t,())).1),row 57 (vturn o dy b (t,())).2):=by kernel_rfl
theorem ok54:SumOk Tryz.prog 220 (S 57 (vturn opsF (vdays opsF))):=S_ok (E:={gam:=(213,S 57 (vdays opsF)) :: gamN opsF}) (.cons ok38 gamN_ok) 20 fun b a=>turn54 opsF (vdays opsF) b a.1
end Go.Ab
namespace Go.Ab
open Go Go.Proofs
structure Orb where
 a:Int
 e:Int
 i:Int
 node:Int
 peri:Int
 m:Int
 tk:Int
instance:Cod Orb where
 enc o:=.agg #[.int .i64 o.a,.int .i64 o.e,.int .i64 o.i,.int .i64 o.node,.int .i64 o.peri,.int .i64 o.m,.int .i64 o.tk]
 dec v:=match v with | .agg ⟨[.int .i64 a,.int .i64 e,.int .i64 i,.int .i64 node,.int .i64 peri,.int .i64 m,.int .i64 tk]⟩=>some ⟨a,e,i,node,peri,m,tk⟩ | _=>none
 law v a h:=by split at h<;>simp_all;subst h;simp
def kepStep(o:Ops)(sn cs:Bool→Int×Unit→Int×Bool)(e m:Int)(z:Int×Bool):Int×Bool :=
 let s:=sn z.2 (z.1,())
 let p:=o.mul s.2 e s.1
 let q:=o.sub p.2 z.1 p.1
 let v:=o.sub q.2 q.1 m
 let c:=cs v.2 (z.1,())
 let r:=o.mul c.2 e c.1
 let t:=o.sub r.2 1099511627776 r.1
 let d:=o.div t.2 v.1 t.1
 o.sub d.2 z.1 d.1
def kepN(o:Ops)(sn cs:Bool→Int×Unit→Int×Bool)(e m:Int):Nat→Int×Bool→Int×Bool
 | 0,z=>z
 | n+1,z=>kepN o sn cs e m n (kepStep o sn cs e m z)
def kepF(o:Ops)(sn cs:Bool→Int×Unit→Int×Bool)(p:Int×Int×Unit)(b:Bool):Int×Bool:=kepN o sn cs p.2.1 p.1 6 (o.add b p.1 0)
def gamS(o:Ops)(sn cs:Bool→Int×Unit→Int×Bool):Gam:=(214,S 57 sn) :: (215,S 57 cs) :: (183,S 59 sn) :: (184,S 59 cs) :: gamN o
theorem kep216(o:Ops)(sn cs:Bool→Int×Unit→Int×Bool)(b:Bool)(m e:Int):fnSum Tryz.prog {gam:=gamS o sn cs} [] 20 216 [.ptr 0 0,.val (.int .i64 m),.val (.int .i64 e)] (row 57 b) =
  bif decide (e<0) then some (.val (Cod.enc (kepF o sn cs (m,e,()) true).1),row 57 (kepF o sn cs (m,e,()) true).2) else bif decide (e>109951162777) then some (.val (Cod.enc (kepF o sn cs (m,e,()) true).1),row 57 (kepF o sn cs (m,e,()) true).2) else some (.val (Cod.enc (kepF o sn cs (m,e,()) b).1),row 57 (kepF o sn cs (m,e,()) b).2):=by kernel_rfl
theorem kep186(o:Ops)(sn cs:Bool→Int×Unit→Int×Bool)(b:Bool)(m e:Int):fnSum Tryz.prog {gam:=gamS o sn cs} [] 20 186 [.ptr 0 0,.val (.int .i64 m),.val (.int .i64 e)] (row 59 b) =
  bif decide (e<0) then some (.val (Cod.enc (kepF o sn cs (m,e,()) true).1),row 59 (kepF o sn cs (m,e,()) true).2) else bif decide (e>109951162777) then some (.val (Cod.enc (kepF o sn cs (m,e,()) true).1),row 59 (kepF o sn cs (m,e,()) true).2) else some (.val (Cod.enc (kepF o sn cs (m,e,()) b).1),row 59 (kepF o sn cs (m,e,()) b).2):=by kernel_rfl
theorem pull3{ω:Type}[Cod ω]{c d b:Bool}{F:Bool→ω×Bool}{e:TypeId}:(bif c then some (AV.val (Cod.enc (F true).1),row e (F true).2) else bif d then some (AV.val (Cod.enc (F true).1),row e (F true).2) else some (AV.val (Cod.enc (F b).1),row e (F b).2)) =
  some (AV.val (Cod.enc (F (bif c then true else bif d then true else b)).1),row e (F (bif c then true else bif d then true else b)).2):=by cases c<;>cases d<;>rfl
def kepO(o:Ops)(sn cs:Bool→Int×Unit→Int×Bool)(b:Bool)(p:Int×Int×Unit):Int×Bool:=kepF o sn cs p (bif decide (p.2.1<0) then true else bif decide (p.2.1>109951162777) then true else b)
def sinV(b:Bool)(p:Int×Unit):Int×Bool:=sinF b p.1
def cosV(b:Bool)(p:Int×Unit):Int×Bool:=cosF b p.1
theorem gamS_ok:GamOk Tryz.prog (gamS opsF sinV cosV):=.cons okSin (.cons okCos (.cons okSinR (.cons okCosR gamN_ok)))
def kepV:Bool→Int×Int×Unit→Int×Bool:=kepO opsF sinV cosV
theorem okKep:SumOk Tryz.prog 216 (S 57 kepV):=S_ok gamS_ok 20 fun b a=>(kep216 opsF sinV cosV b a.1 a.2.1).trans (pull3 (F:=kepF opsF sinV cosV a))
theorem okKepR:SumOk Tryz.prog 186 (S 59 kepV):=S_ok gamS_ok 20 fun b a=>(kep186 opsF sinV cosV b a.1 a.2.1).trans (pull3 (F:=kepF opsF sinV cosV a))
def aboutO(o:Ops)(sn cs:Bool→Int×Unit→Int×Bool)(b:Bool)(p:Int×Int×Int×Unit):Two Int Int×Bool :=
 let c:=cs b (p.2.2.1,())
 let s:=sn c.2 (p.2.2.1,())
 let uc:=o.mul s.2 p.1 c.1
 let vs:=o.mul uc.2 p.2.1 s.1
 let x:=o.sub vs.2 uc.1 vs.1
 let us:=o.mul x.2 p.1 s.1
 let vc:=o.mul us.2 p.2.1 c.1
 let y:=o.add vc.2 us.1 vc.1
 (⟨x.1,y.1⟩,y.2)
theorem about218(o:Ops)(sn cs:Bool→Int×Unit→Int×Bool)(b:Bool)(u v a:Int):fnSum Tryz.prog {gam:=gamS o sn cs} [] 20 218 [.ptr 0 0,.val (.int .i64 u),.val (.int .i64 v),.val (.int .i64 a)] (row 57 b) =
  some (.val (Cod.enc (aboutO o sn cs b (u,v,a,())).1),row 57 (aboutO o sn cs b (u,v,a,())).2):=by kernel_rfl
def aboutV:Bool→Int×Int×Int×Unit→Two Int Int×Bool:=aboutO opsF sinV cosV
theorem okAbout:SumOk Tryz.prog 218 (S 57 aboutV):=S_ok gamS_ok 20 fun b a=>about218 opsF sinV cosV b a.1 a.2.1 a.2.2.1
end Go.Ab
namespace Go.Ab
open Go Go.Proofs
theorem r212(mu:Bool→Int×Int×Unit→Int×Bool)(rt:Int×Unit→Bool)(a e i n p m t:Int):fnSum Tryz.prog {gam:=[(87,S0 rt),(64,S 57 mu)]} [] 20 212 [.val (.agg #[.int .i64 a,.int .i64 e,.int .i64 i,.int .i64 n,.int .i64 p,.int .i64 m,.int .i64 t])] []=(bif decide (n < -6908435304716) then some (AV.val (Value.bool false),[]) else bif bif false then true else decide (n>6908435304716) then some (AV.val (Value.bool false),[]) else bif decide (p < -6908435304716) then some (AV.val (Value.bool false),[]) else bif bif false then true else decide (p>6908435304716) then some (AV.val (Value.bool false),[]) else bif decide (m < -6908435304716) then some (AV.val (Value.bool false),[]) else bif bif false then true else decide (m>6908435304716) then some (AV.val (Value.bool false),[]) else bif decide (e<0) then some (AV.val (Value.bool false),[]) else bif bif false then true else decide (e>109951162777) then some (AV.val (Value.bool false),[]) else bif bif false then true else decide (i<0) then some (AV.val (Value.bool false),[]) else bif bif false then true else decide (i>3454217652358) then some (AV.val (Value.bool false),[]) else bif bif false then true else !rt (t,()) then some (AV.val (Value.bool false),[]) else bif decide ((mu false (a,IntKind.i64.wrap (1099511627776-e),())).fst≥7232738120604) then bif bif true then decide ((mu (mu false (a,IntKind.i64.wrap (1099511627776-e),())).snd (a,IntKind.i64.wrap (1099511627776+e),())).fst≤9211859050600) else false then some (AV.val (Value.bool (bif true then !(mu (mu false (a,IntKind.i64.wrap (1099511627776-e),())).snd (a,IntKind.i64.wrap (1099511627776+e),())).snd else false)),[]) else some (AV.val (Value.bool false),[]) else some (AV.val (Value.bool false),[])):=by kernel_rfl
theorem r233(a:Int):fnSum Tryz.prog {gam:=[]} [] 20 233 [.val (.int .i64 a)] []=(bif decide (a≥-6908435304716) then some (AV.val (Value.bool (bif true then decide (a≤6908435304716) else false)),[]) else some (AV.val (Value.bool false),[])):=by kernel_rfl
theorem r181(mu:Bool→Int×Int×Unit→Int×Bool)(rt inn:Int×Unit→Bool)(a e i n p m t:Int):fnSum Tryz.prog {gam:=[(94,S0 rt),(233,S0 inn),(80,S 59 mu)]} [] 20 181 [.val (.agg #[.int .i64 a,.int .i64 e,.int .i64 i,.int .i64 n,.int .i64 p,.int .i64 m,.int .i64 t])] []=(bif decide (e<0) then some (AV.val (Value.bool false),[]) else bif bif false then true else decide (e>109951162777) then some (AV.val (Value.bool false),[]) else bif bif false then true else decide (i<0) then some (AV.val (Value.bool false),[]) else bif bif false then true else decide (i>3454217652358) then some (AV.val (Value.bool false),[]) else bif bif false then true else !inn (n,()) then some (AV.val (Value.bool false),[]) else bif bif false then true else !inn (p,()) then some (AV.val (Value.bool false),[]) else bif bif false then true else !inn (m,()) then some (AV.val (Value.bool false),[]) else bif bif false then true else !rt (t,()) then some (AV.val (Value.bool false),[]) else bif !(mu (mu false (a,IntKind.i64.wrap (1099511627776-e),())).snd (a,IntKind.i64.wrap (1099511627776+e),())).snd then bif bif true then decide ((mu false (a,IntKind.i64.wrap (1099511627776-e),())).fst≥7232738120604) else false then some (AV.val (Value.bool (bif true then decide ((mu (mu false (a,IntKind.i64.wrap (1099511627776-e),())).snd (a,IntKind.i64.wrap (1099511627776+e),())).fst≤9211859050600) else false)),[]) else some (AV.val (Value.bool false),[]) else some (AV.val (Value.bool false),[])):=by kernel_rfl
def inA(a:Int):Bool:=decide (-6908435304716≤a)&&decide (a≤6908435304716)
def orbOk(mu:Bool→Int×Int×Unit→Int×Bool)(rt:Int×Unit→Bool)(o:Orb):Bool :=
 inA o.node&&(inA o.peri&&(inA o.m&&(decide (0≤o.e)&&(decide (o.e≤109951162777)&&(decide (0≤o.i)&&(decide (o.i≤3454217652358)&&(rt (o.tk,()) &&
  (decide (7232738120604≤(mu false (o.a,w64 (1099511627776-o.e),())).1)&&(decide ((mu (mu false (o.a,w64 (1099511627776-o.e),())).2 (o.a,w64 (1099511627776+o.e),())).1≤9211859050600) &&
   !(mu (mu false (o.a,w64 (1099511627776-o.e),())).2 (o.a,w64 (1099511627776+o.e),())).2)))))))))
theorem pullB{c r:Bool}:(bif c then some (AV.val (Value.bool false),([]:List Con)) else some (AV.val (Value.bool r),[]))=some (AV.val (Value.bool (!c&&r)),[]):=by cases c<;>rfl
theorem pullT{c r:Bool}:(bif c then some (AV.val (Value.bool r),([]:List Con)) else some (AV.val (Value.bool false),[]))=some (AV.val (Value.bool (c&&r)),[]):=by cases c<;>rfl
theorem notlt{x y:Int}:(!decide (x<y))=decide (y≤x):=by rw[← decide_not];simp
theorem right212(mu:Bool→Int×Int×Unit→Int×Bool)(rt:Int×Unit→Bool)(o:Orb):fnSum Tryz.prog {gam:=[(87,S0 rt),(64,S 57 mu)]} [] 20 212 [.val (Cod.enc o)] []=some (.val (.bool (orbOk mu rt o)),[]):=by
 refine (r212 mu rt o.a o.e o.i o.node o.peri o.m o.tk).trans ?_
 simp only[cond_false,cond_true,pullB,pullT,GT.gt,GE.ge,notlt,Bool.not_not]
 unfold orbOk inA
 simp only[Bool.and_assoc]
theorem right233(a:Int):fnSum Tryz.prog {gam:=[]} [] 20 233 [.val (.int .i64 a)] []=some (.val (.bool (inA a)),[]):=by
 rw[r233]
 simp only[cond_true,pullT,GE.ge]
 rfl
theorem right181(mu:Bool→Int×Int×Unit→Int×Bool)(rt:Int×Unit→Bool)(o:Orb):fnSum Tryz.prog {gam:=[(94,S0 rt),(233,S0 fun (p:Int×Unit)=>inA p.1),(80,S 59 mu)]} [] 20 181 [.val (Cod.enc o)] []=some (.val (.bool (orbOk mu rt o)),[]):=by
 refine (r181 mu rt (fun p=>inA p.1) o.a o.e o.i o.node o.peri o.m o.tk).trans ?_
 simp only[cond_false,cond_true,pullB,pullT,GT.gt,GE.ge,notlt,Bool.not_not]
 unfold orbOk
 congr 4
 ac_rfl
def orbRight(o:Orb):Bool:=orbOk (op2 fmul) (fun p=>isTick p.1) o
theorem okRight:SumOk Tryz.prog 212 (S0 fun (p:Orb×Unit)=>orbRight p.1):=S0_ok (E:={gam:=[(87,S0 fun (p:Int×Unit)=>isTick p.1),(64,S 57 (op2 fmul))]}) (.cons ok40 (.cons ok121 .nil)) 20 fun a=>right212 _ _ a.1
theorem okIn:SumOk Tryz.prog 233 (S0 fun (p:Int×Unit)=>inA p.1):=S0_ok (E:={gam:=[]}) GamOk.nil 20 fun a=>right233 a.1
theorem okRightR:SumOk Tryz.prog 181 (S0 fun (p:Orb×Unit)=>orbRight p.1):=S0_ok (E:={gam:=[(94,S0 fun (p:Int×Unit)=>isTick p.1),(233,S0 fun (p:Int×Unit)=>inA p.1),(80,S 59 (op2 fmul))]}) (.cons ok41 (.cons okIn (.cons ok122 .nil))) 20 fun a=>right181 _ _ a.1
end Go.Ab
namespace Go.Ab
open Go Go.Proofs
def V4.zero:V4:=⟨0,0,0,0⟩
def V4.v(q:V4):V3:=⟨q.w,q.x,q.y⟩
def V4.s(q:V4):Int:=q.z
def mk4(a:V3)(s:Int):V4:=⟨a.x,a.y,a.z,s⟩
def gamNV(o:Ops)(v:VOps):Gam:=gamN o++gamV v
theorem gamNV_ok:GamOk Tryz.prog (gamNV opsF vopsF):=GamOk.append gamN_ok gamV_ok
def qmulW(o:Ops)(v:VOps)(p q:V4)(r:V3)(f:Bool):V4×Bool :=
 let st:=o.mul f p.s q.s
 let d:=v.dot st.2 (p.v,q.v,())
 let w:=o.sub d.2 st.1 d.1
 (mk4 r w.1,w.2)
def qmulP(o:Ops)(v:VOps)(p q:V4)(b:Bool):V4×Bool :=
 let x:=v.scale b (p.v,q.s,())
 let y:=v.scale x.2 (q.v,p.s,())
 let s:=v.add y.2 (x.1,y.1,())
 let z:=v.cross s.2 (q.v,p.v,())
 let r:=v.add z.2 (s.1,z.1,())
 qmulW o v p q r.1 r.2
def done4(r:V4×Bool):V4×Bool:=(bif r.2 then V4.zero else r.1,r.2)
theorem mul92(o:Ops)(v:VOps)(b:Bool)(p q:V4):fnSum Tryz.prog {gam:=gamNV o v} [] 20 135 [.ptr 0 0,.val (Cod.enc p),.val (Cod.enc q)] (row 57 b) =
  some (.val (Cod.enc (done4 (qmulP o v p q b)).1),row 57 (done4 (qmulP o v p q b)).2):=by
 refine Eq.trans (?_:_=bif (qmulP o v p q b).2 then some (.val (Cod.enc V4.zero),row 57 (qmulP o v p q b).2) else some (.val (Cod.enc (qmulP o v p q b).1),row 57 (qmulP o v p q b).2)) pull
 kernel_rfl
def qturn(v:VOps)(b:Bool)(p:V4×V3×Unit):V3×Bool :=
 let c:=v.cross b (p.1.v,p.2.1,())
 let t:=v.scale c.2 (c.1,2199023255552,())
 let u:=v.scale t.2 (t.1,p.1.s,())
 let x:=v.sub u.2 (p.2.1,u.1,())
 let y:=v.cross x.2 (p.1.v,t.1,())
 v.add y.2 (x.1,y.1,())
theorem turn87(o:Ops)(v:VOps)(b:Bool)(q:V4)(u:V3):fnSum Tryz.prog {gam:=gamNV o v} [] 20 56 [.ptr 0 0,.val (Cod.enc q),.val (Cod.enc u)] (row 57 b) =
  some (.val (Cod.enc (qturn v b (q,u,())).1),row 57 (qturn v b (q,u,())).2):=by kernel_rfl
end Go.Ab
namespace Go.Ab
open Go Go.Proofs
def qmul(b:Bool)(p:V4×V4×Unit):V4×Bool:=done4 (qmulP opsF vopsF p.1 p.2.1 b)
theorem ok92:SumOk Tryz.prog 135 (S 57 qmul):=S_ok gamNV_ok 20 fun b a=>mul92 opsF vopsF b a.1 a.2.1
theorem ok87:SumOk Tryz.prog 56 (S 57 (qturn vopsF)):=S_ok gamNV_ok 20 fun b a=>turn87 opsF vopsF b a.1 a.2.1
def nb(x:Int):Int:=bif decide (x≤4611686018427387904) then (bif decide (x≥-4611686018427387904) then IntKind.i64.wrap (0-x) else x) else x
def qback(p:V4×Unit):V4:=⟨nb p.1.w,nb p.1.x,nb p.1.y,p.1.z⟩
def nbP{α:Type}(x:Int)(K:Int→α):α:=bif decide (x≤4611686018427387904) then (bif decide (x≥-4611686018427387904) then K (IntKind.i64.wrap (0-x)) else K x) else K x
theorem nbP_eq{α:Type}(x:Int)(K:Int→α):nbP x K=K (nb x):=by
 unfold nbP nb
 cases decide (x≤4611686018427387904)<;>cases decide (x≥-4611686018427387904)<;>rfl
theorem back91(q:V4):fnSum Tryz.prog {gam:=[]} [] 20 136 [.val (Cod.enc q)] [] =
  nbP q.w fun w=>nbP q.x fun x=>nbP q.y fun y=>some (.val (Cod.enc (V4.mk w x y q.z)),[]):=by kernel_rfl
theorem ok91:SumOk Tryz.prog 136 (S0 qback):=S0_ok (E:={gam:=[]}) GamOk.nil 20 fun a=>by
 refine (back91 a.1).trans ?_
 rw[nbP_eq,nbP_eq,nbP_eq];rfl
end Go.Ab
