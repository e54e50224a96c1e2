/- A part of the proofs: lemmas, no statement of their own; no condition. -/
import Derived.Test.YtoocjipllmkjcaaGreatGFrM
import Derived.Test.YtoocjipllmkjcaaGreatGFuC0
import Derived.Lib.Bytealg
namespace Go.Ab
open Go
structure Sp where
 i:Nat
 d:Nat
 on:Bool
 reads:List (Nat×Value)
 val:Value
 tok:Option (Nat×Nat)
def Sp.tokR(s:Sp):Wr:=match s.tok with | none=>[] | some (n,_)=>[(.blk 0,.row n [])]
def Sp.tokW(s:Sp):Wr:=match s.tok with | none=>[] | some (n,m)=>match Nat.beq n m with | true=>[] | false=>[(.blk 0,.row m [])]
def Sp.it(s:Sp):It:=⟨s.i,s.reads.map (fun p=>(.tmp p.1,.av (.val p.2)))++s.tokR,(.tmp s.d,.av (.val s.val)) :: s.tokW,0,0⟩
def Z1q(s:Sp)(a:Act):Prop:=∀p∈s.reads,a.tmps[p.1]?=some p.2
structure SpOk(P:Program)(ops:Array Oper)(W:Nat→World)(N:Nat)(s:Sp):Prop where
 lt:s.d<N
 op:∃o,ops[s.i]?=some o∧o.dst=some s.d∧(∀a:Act,Z1q s a→Region.wanted o (yielded ops a.tmps)=s.on) ∧
  (s.on=false→s.val=undef∧s.tok=none) ∧
  (s.on=true→match s.tok with
   | none=>∀(a:Act) (w:World),Z1q s a→(execOp a.eval o).run P w=.ok (.value s.val) w
   | some (n,m)=>∀a:Act,Z1q s a→(execOp a.eval o).run P (W n)=.ok (.value s.val) (W m))
def TokR(W:Nat→World)(N:Nat)(u:U)(a:Act)(w:World):Prop :=
 a.defers=[]∧a.tmps.size=N∧(∀t v,u (.tmp t)=some (.av (.val v))→a.tmps[t]?=some v)∧∃n,u (.blk 0)=some (.row n [])∧w=W n
theorem M5d{P:Program}{ops:Array Oper}{W:Nat→World}{N:Nat}{Q:Exit→Act→World→Prop}{s:Sp}(h:SpOk P ops W N s):ExR P ops (TokR W N) Q s.it:=by
 intro u a w hR hrd K hK
 obtain ⟨hlt,o,ho,hdst,hwant,hoff,hon⟩:=h
 obtain ⟨r1,r2,r3,n0,r4,rfl⟩:=hR
 have hreads:Z1q s a:=by
  intro p hp
  refine r3 p.1 p.2 (hrd (.tmp p.1,.av (.val p.2)) ?_)
  unfold Sp.it
  simp only[List.mem_append,List.mem_map]
  exact .inl ⟨p,hp,rfl⟩
 have put:∀m,(s.tok=none∧m=n0∨∃n,s.tok=some (n,m)∧n=n0)→TokR W N (upd u s.it.wr) (a.put (some s.d) s.val) (W m):=by
  intro m hm
  refine ⟨r1,by simp[Act.put,r2],fun t v ht=>?_,m,?_,rfl⟩
  ·have e:upd u s.it.wr (.tmp t)=if t=s.d then some (.av (.val s.val)) else u (.tmp t):=by
    unfold Sp.it Sp.tokW
    rcases hm with ⟨h1,_⟩ | ⟨n,h1,_⟩
    ·rw[h1]
     simp only[upd,upd1]
     by_cases e:t=s.d
     ·simp[e]
     ·simp[e]
    ·rw[h1]
     dsimp only
     split
     ·simp only[upd,upd1]
      by_cases e:t=s.d
      ·simp[e]
      ·simp[e]
     ·simp only[upd,upd1]
      by_cases e:t=s.d
      ·simp[e]
      ·simp[e]
   rw[e]at ht
   by_cases e2:t=s.d
   ·rw[if_pos e2]at ht
    cases ht
    subst e2
    simp[Act.put,r2,hlt]
   ·rw[if_neg e2]at ht
    have :=r3 t v ht
    simp[Act.put,Ne.symm e2,this]
  ·unfold Sp.it Sp.tokW
   rcases hm with ⟨h1,rfl⟩ | ⟨n,h1,rfl⟩
   ·rw[h1]
    simp only[upd,upd1]
    simp[r4]
   ·rw[h1]
    dsimp only
    split
    ·rename_i e
     have :=Nat.eq_of_beq_eq_true e
     subst this
     simp only[upd,upd1]
     simp[r4]
    ·simp only[upd,upd1]
     simp
 unfold wpOp
 show match ops[s.i]? with | none=>_ | some o=>_
 rw[ho]
 simp only
 cases hs:s.on with
 | false =>
  rw[if_neg (by rw[hwant a hreads,hs];decide),hdst]
  obtain ⟨e1,e2⟩:=hoff hs
  have :=put n0 (.inl ⟨e2,rfl⟩)
  rw[e1]at this
  exact hK _ _ this
 | true =>
  rw[if_pos (by rw[hwant a hreads,hs])]
  refine .inl ?_
  have hon:=hon hs
  unfold Oper.wp
  cases ht:s.tok with
  | none =>
   rw[ht]at hon
   rw[hon a _ hreads,Oper.upon_value,hdst]
   exact hK _ _ (put n0 (.inl ⟨ht,rfl⟩))
  | some p =>
   obtain ⟨n,m⟩:=p
   rw[ht]at hon
   have hn:n=n0:=by
    have :=hrd (.blk 0,.row n []) (by unfold Sp.it Sp.tokR;rw[ht];simp)
    simp only at this
    rw[r4]at this
    cases this
    rfl
   subst hn
   rw[hon a hreads,Oper.upon_value,hdst]
   exact hK _ _ (put m (.inr ⟨n,ht,rfl⟩))
def ChOk:List Sp→(Nat→Option Value)→Nat→Nat→Prop
 | [],_,n,e=>n=e
 | s :: r,f,n,e=>(∀p∈s.reads,f p.1=some p.2)∧(match s.tok with
   | none=>ChOk r (fun t=>if t=s.d then some s.val else f t) n e
   | some (m,m')=>m=n∧ChOk r (fun t=>if t=s.d then some s.val else f t) m' e)
def uOf(f:Nat→Option Value)(n:Nat):U:=fun
 | .tmp t=>(f t).map fun v=>.av (.val v)
 | .blk 0=>some (.row n [])
 | .blk _=>none
theorem T2m{s:Sp}{f:Nat→Option Value}{n m:Nat}(h:s.tok=none∧m=n∨∃k,s.tok=some (k,m)∧k=n):upd (uOf f n) s.it.wr=uOf (fun t=>if t=s.d then some s.val else f t) m:=by
 funext l
 unfold Sp.it Sp.tokW
 rcases h with ⟨h1,rfl⟩ | ⟨k,h1,rfl⟩
 ·rw[h1]
  simp only[upd,upd1]
  cases l with
  | tmp t=>by_cases e:t=s.d<;>simp[uOf,e]
  | blk b=>cases b<;>simp[uOf]
 ·rw[h1]
  dsimp only
  split
  ·rename_i e
   have :=Nat.eq_of_beq_eq_true e
   subst this
   simp only[upd,upd1]
   cases l with
   | tmp t=>by_cases e:t=s.d<;>simp[uOf,e]
   | blk b=>cases b<;>simp[uOf]
  ·simp only[upd,upd1]
   cases l with
   | tmp t=>by_cases e:t=s.d<;>simp[uOf,e]
   | blk b=>cases b<;>simp[uOf]
theorem H1x{P:Program}{ops:Array Oper}{W:Nat→World}{N:Nat}{Q:Exit→Act→World→Prop}:∀(sps:List Sp) (f:Nat→Option Value) (n e:Nat),(∀s∈sps,SpOk P ops W N s)→ChOk sps f n e →
  C0v (ExR P ops (TokR W N) Q) (sps.map Sp.it) (uOf f n) (uOf (sps.foldl (fun f s=>fun t=>if t=s.d then some s.val else f t) f) e)
 | [],f,n,e,_,h=>by
  simp only[ChOk]at h
  subst h
  rfl
 | s :: r,f,n,e,hok,h=>by
  obtain ⟨h1,h2⟩:=h
  have hs:=M5d (Q:=Q) (hok s (List.mem_cons_self ..))
  have hread:(∀p∈s.tokR,uOf f n p.1=some p.2)→∀x∈s.it.rd,uOf f n x.1=some x.2:=by
   intro htok x hx
   unfold Sp.it at hx
   simp only[List.mem_append,List.mem_map]at hx
   rcases hx with ⟨p,hp,rfl⟩ | hx
   ·simp[uOf,h1 p hp]
   ·exact htok x hx
  refine ⟨hread fun p hp=>?_,hs,?_⟩
  ·unfold Sp.tokR at hp
   cases ht:s.tok with
   | none=>rw[ht]at hp;cases hp
   | some q =>
    obtain ⟨a,b⟩:=q
    rw[ht]at hp h2
    simp only[List.mem_singleton]at hp
    subst hp
    rw[h2.1]
    rfl
  ·simp only[List.foldl_cons]
   cases ht:s.tok with
   | none =>
    rw[ht]at h2
    rw[T2m (m:=n) (.inl ⟨ht,rfl⟩)]
    exact H1x r _ n e (fun x hx=>hok x (List.mem_cons_of_mem _ hx)) h2
   | some q =>
    obtain ⟨a,b⟩:=q
    rw[ht]at h2
    rw[T2m (m:=b) (.inr ⟨a,ht,h2.1⟩)]
    exact H1x r _ b e (fun x hx=>hok x (List.mem_cons_of_mem _ hx)) h2.2
theorem N1n:∀(sps:List Sp) (a:Act) (N:Nat),a.tmps.size=N→(∀s∈sps,s.d<N) →
  (sps.foldl (fun a s=>a.put (some s.d) s.val) a).tmps.size=N∧(sps.foldl (fun a s=>a.put (some s.d) s.val) a).defers=a.defers ∧
  ∀t,(sps.foldl (fun a s=>a.put (some s.d) s.val) a).tmps[t]?=(sps.foldl (fun (f:Nat→Option Value) s=>fun t=>if t=s.d then some s.val else f t) (fun t=>a.tmps[t]?)) t
 | [],a,N,h,_=>⟨h,rfl,fun _=>rfl⟩
 | s :: r,a,N,h,hd=>by
  obtain ⟨h1,h2,h3⟩:=N1n r (a.put (some s.d) s.val) N (by simp[Act.put,h]) fun x hx=>hd x (List.mem_cons_of_mem _ hx)
  refine ⟨h1,h2,fun t=>?_⟩
  rw[List.foldl_cons,List.foldl_cons,h3 t]
  have e:(fun t=>(a.put (some s.d) s.val).tmps[t]?)=fun t=>if t=s.d then some s.val else a.tmps[t]?:=by
   funext t
   have hlt:=hd s (List.mem_cons_self ..)
   by_cases e:t=s.d
   ·subst e;simp[Act.put,h,hlt]
   ·simp[Act.put,Ne.symm e,e]
  rw[e]
theorem E2h{P:Program}{ops:Array Oper}{W:Nat→World}{N id e:Nat}{Q:Exit→Act→World→Prop}{a:Act}{w:World}{sps:List Sp}(hm:P.follows .mixedOrders=true)(hlen:sps.length=ops.size)(hix:∀(k:Nat) (s:Sp),sps[k]?=some s→s.i=k)
  (hok:H1r ops.toList (sps.map fun s=>s.it.foot)=true) (hsp:∀s∈sps,SpOk P ops W N s) (hd:a.defers=[]) (hs:a.tmps.size=N) (hW:W 0={w with drawn:=w.drawn+1}) (hch:ChOk sps (fun t=>a.tmps[t]?) 0 e)
  (hQ:Q .normal (sps.foldl (fun a s=>a.put (some s.d) s.val) a) (W e)):(Code.region id ops true).wp P Q a w:=by
 refine wp_region_any hm ?_
 have hc:=H1x (Q:=Q) sps _ 0 e hsp hch
 refine D1k (R:=TokR W N) (items:=sps.map Sp.it) (by simpa using hlen) (fun k it hk=>?_) (by simpa[List.map_map,Function.comp_def]using hok) hc ?_ ?_
 ·rw[List.getElem?_map]at hk
  cases hks:sps[k]? with
  | none=>rw[hks]at hk;cases hk
  | some s =>
   rw[hks]at hk
   cases hk
   exact hix k s hks
 ·refine ⟨hd,hs,fun t v ht=>?_,0,rfl,hW.symm⟩
  have ht:(a.tmps[t]?).map (fun v=>Con.av (.val v))=some (.av (.val v)):=ht
  cases h:a.tmps[t]? with
  | none=>rw[h]at ht;cases ht
  | some x =>
   rw[h]at ht
   simp only[Option.map_some,Option.some.injEq,Con.av.injEq,AV.val.injEq]at ht
   rw[ht]
 ·intro a' w' hR
  obtain ⟨h1,h2,h3,n,h4,rfl⟩:=hR
  obtain ⟨f1,f2,f3⟩:=N1n sps a N hs fun s hs=>(hsp s hs).lt
  have hn:n=e:=by
   simp only[uOf,Option.some.injEq,Con.row.injEq]at h4
   exact h4.1.symm
  have ha:a'=sps.foldl (fun a s=>a.put (some s.d) s.val) a:=by
   have ht:a'.tmps=(sps.foldl (fun a s=>a.put (some s.d) s.val) a).tmps:=by
    apply Array.ext
    ·rw[h2,f1]
    ·intro i hi1 hi2
     have hx:=f3 i
     rw[Array.getElem?_eq_getElem hi2]at hx
     have :=h3 i _ (show (List.foldl (fun (f:Nat→Option Value) (s:Sp)=>fun t=>if t=s.d then some s.val else f t) (fun t=>a.tmps[t]?) sps i).map (fun v=>Con.av (.val v))=_ by rw[← hx];rfl)
     rw[Array.getElem?_eq_getElem hi1]at this
     exact Option.some.inj this
   have hdf:a'.defers=(sps.foldl (fun a s=>a.put (some s.d) s.val) a).defers:=by rw[h1,f2,hd]
   cases a'
   cases hb:sps.foldl (fun a s=>a.put (some s.d) s.val) a
   rw[hb]at ht hdf
   simp only at ht hdf
   rw[ht,hdf]
  rw[ha,hn]
  exact hQ
end Go.Ab
namespace Go.Ab
open Go Go.Proofs
noncomputable def sC:Code:=Tryz.f162.body.getD .skip
noncomputable def sc0:Code:=seqL sC
noncomputable def sc1:Code:=seqL (seqR sC)
noncomputable def sc2:Code:=seqL (seqR (seqR sC))
noncomputable def sB:Code:=inB (inB (inB (seqR (seqR (seqR sC)))))
noncomputable def sc3:Code:=seqL sB
noncomputable def sc4:Code:=seqL (seqR sB)
noncomputable def sc6:Code:=seqL (seqR (seqR sB))
noncomputable def sT7:Code:=seqR (seqR (seqR sB))
noncomputable def sc7:Code:=seqL sT7
noncomputable def sc9:Code:=seqL (seqR sT7)
noncomputable def sc10:Code:=seqL (seqR (seqR sT7))
noncomputable def sc12:Code:=seqL (seqR (seqR (seqR sT7)))
noncomputable def sX:Code:=seqR (seqR (seqR (seqR sT7)))
noncomputable def sc13:Code:=seqL sX
noncomputable def sO14:Array Oper:=regO (ifT (seqR sX))
noncomputable def sc15:Code:=ifE (seqR sX)
theorem M5b:Tryz.f162.body=some (.seq sc0 (.seq sc1 (.seq sc2 (.block 0 (.loop (.block 1 sB)))))):=by kernel_rfl
theorem M5a:sB=.seq sc3 (.seq sc4 (.seq sc6 (.seq sc7 (.seq sc9 (.seq sc10 (.seq sc12 (.seq sc13 (.cond (.tmp 57) (.region 14 sO14 true) sc15)))))))):=by kernel_rfl
def sS(s:ByteArray)(a:Option Addr)(n c:Nat)(o:Int)(l:List (Nat×Value)):St:=mkSt 69 ([0,5,6]++l.map (·.1)) ([.string s,.slice a n c,.int .i64 o]++l.map (·.2)) [] [] [] 4096 frH frT
abbrev ScG:=ByteArray×N8×Unit→Int
abbrev OpG:=ByteArray×Unit→Two Fr Bool
def R0k(ix:ScG)(po:ByteArray×Unit→Bool)(op:OpG):Gam:=[(207,S0w (fun _=>true) ix),(208,S0w po op)]
section
variable (ix:ScG) (po:ByteArray×Unit→Bool) (op:OpG) (s:ByteArray) (a:Option Addr) (n c:Nat) (o i:Int)
theorem sr0:C0t (R0k ix po op) 69 sc0 ⟨[Value.string s].map .val++List.replicate (69-[Value.string s].length) (.val undef),[],4096,frH,frT,[]⟩ [] [0]=some (.normal,mkSt 69 [0] [.string s] [] [] [] 4096 frH frT):=by kernel_rfl
theorem sr1:C0t (R0k ix po op) 69 sc1 (mkSt 69 [0] [.string s] [] [] [] 4096 frH frT) [] [0,5]=some (.normal,mkSt 69 [0,5] [.string s,.slice none 0 0] [] [] [] 4096 frH frT):=by kernel_rfl
theorem sr2:C0t (R0k ix po op) 69 sc2 (mkSt 69 [0,5] [.string s,.slice none 0 0] [] [] [] 4096 frH frT) [] [0,5,6]=some (.normal,sS s none 0 0 0 []):=by kernel_rfl
theorem sr3:C0t (R0k ix po op) 69 sc3 (sS s a n c o []) [] [0,5,6,7]=some (.normal,sS s a n c o [(7,.int .i64 (ix (s,⟨165⟩,())))]):=by kernel_rfl
theorem sr4:C0t (R0k ix po op) 69 sc4 (sS s a n c o [(7,.int .i64 i)]) [] [0,2,3,4,5,6,7]=bif decide (i<0) then some (.ret,mkSt 69 [0,5,6,7,2,3,4] [.string s,.slice a n c,.int .i64 o,.int .i64 i,.slice a n c,.string ⟨#[]⟩,.int .i64 (IntKind.i64.wrap (o+s.size))] [] [] [] 4096 frH frT) else some (.normal,{sS s a n c o [(7,.int .i64 i)]with tmps:=(sS s a n c o [(7,.int .i64 i)]).tmps}):=by kernel_rfl
theorem sr6:C0t (R0k ix po op) 69 sc6 (sS s a n c o [(7,.int .i64 i)]) [] [0,5,6]=bif decide (0≤i∧i≤(s.size:Int)∧(s.size:Int)≤(s.size:Int)) then some (.normal,sS (s.extract i.toNat ((s.size:Nat):Int).toNat) a n c (IntKind.i64.wrap (o+i)) []) else none:=by kernel_rfl
theorem sr7:C0t (R0k ix po op) 69 sc7 (sS s a n c o []) [] [0,2,3,4,5,6]=bif decide ((s.size:Int)<3) then some (.ret,mkSt 69 [0,5,6,2,3,4] [.string s,.slice a n c,.int .i64 o,.slice a n c,.string s,.int .i64 o] [] [] [] 4096 frH frT) else some (.normal,{sS s a n c o []with tmps:=(sS s a n c o []).tmps}):=by kernel_rfl
theorem sr9:C0t (R0k ix po op) 69 sc9 (sS s a n c o []) [] [0,5,6,8]=bif decide (0≤(2:Int)∧2<(s.size:Int)) then some (.normal,sS s a n c o [(8,.int .i64 (IntKind.i64.wrap (IntKind.i64.wrap (J0n s 2)+5)))]) else none:=by kernel_rfl
def M5c(m:Int):Option (Ex×St):=some (.ret,mkSt 69 [0,5,6,8,2,3,4] [.string s,.slice a n c,.int .i64 o,.int .i64 m,.slice a n c,.string s,.int .i64 o] [] [] [] 4096 frH frT)
theorem sr10(m:Int):C0t (R0k ix po op) 69 sc10 (sS s a n c o [(8,.int .i64 m)]) [] [0,2,3,4,5,6,8] =
  bif decide (m>(s.size:Int)) then bif (bif true then decide (m≤69) else false) then M5c s a n c o m else some (.normal,{sS s a n c o [(8,.int .i64 m)]with tmps:=(sS s a n c o [(8,.int .i64 m)]).tmps}) else some (.normal,{sS s a n c o [(8,.int .i64 m)]with tmps:=(sS s a n c o [(8,.int .i64 m)]).tmps}):=by kernel_rfl
def sX'(s:ByteArray)(a:Option Addr)(n c:Nat)(o m:Int)(x:Two Fr Bool):St:=mkSt 69 [0,5,6,8,10] [.string s,.slice a n c,.int .i64 o,.int .i64 m,.bool x.b] [(9,4096,0)] [(4096,74,2)] [.int .i64 x.a.kind,.string x.a.data] fr2 frH frT
def sY(s:ByteArray)(a:Option Addr)(n c:Nat)(o m:Int)(x:Two Fr Bool):St:=mkSt 69 [0,5,6,8,10,57] [.string s,.slice a n c,.int .i64 o,.int .i64 m,.bool x.b,.bool x.b] [(9,4096,0)] [(4096,74,2)] [.int .i64 x.a.kind,.string x.a.data] fr2 frH frT
def minI(a b:Int):Int:=if b<a then b else a
theorem sr12(m:Int):C0t (R0k ix po op) 69 sc12 (sS s a n c o [(8,.int .i64 m)]) [4096] [0,5,6,8,9,10] =
  let q:=minI m s.size
  let cut:=s.extract ((0:Nat):Int).toNat q.toNat
  bif decide (0≤((0:Nat):Int)∧((0:Nat):Int)≤q∧q≤(s.size:Int)) then bif po (cut,()) then some (.normal,sX' s a n c o m (op (cut,()))) else none else none:=by kernel_rfl
theorem sr13(m:Int)(x:Two Fr Bool):C0t (R0k ix po op) 69 sc13 (sX' s a n c o m x) [4096] [0,5,6,8,9,10,57]=some (.normal,sY s a n c o m x):=by kernel_rfl
theorem sr15(m:Int)(x:Two Fr Bool):C0t (R0k ix po op) 69 sc15 (sY s a n c o m x) [] [0,5,6]=bif decide (0≤(1:Int)∧1≤(s.size:Int)∧(s.size:Int)≤(s.size:Int)) then some (.normal,{sS (s.extract (Int.toNat 1) ((s.size:Nat):Int).toNat) a n c (IntKind.i64.wrap (o+1)) []with lo:=fr2}) else none:=by kernel_rfl
end
end Go.Ab
namespace Go.Ab
open Go
abbrev Scd:=List Fr×List UInt8×Nat
def N0m(x:Scd):Scd:=(x.1,x.2.1,x.2.2+1)
def D1p(f:Fr)(x:Scd):Scd:=(f :: x.1,x.2)
def Q1z(rec:List UInt8→Scd)(l:List UInt8):Scd :=
 match l with
 | []=>([],[],0)
 | b :: r =>
  if b=165 then
   if (b :: r).length<3 then ([],b :: r,0)
   else if 64<((b :: r).getD 2 0).toNat then N0m (rec r)
   else if (b :: r).length<((b :: r).getD 2 0).toNat+5 then ([],b :: r,0)
   else if (B0d (bsL ((b :: r).take (((b :: r).getD 2 0).toNat+5)))).b then D1p (B0d (bsL ((b :: r).take (((b :: r).getD 2 0).toNat+5)))).a (rec ((b :: r).drop (((b :: r).getD 2 0).toNat+5)))
   else N0m (rec r)
  else N0m (rec r)
def V1x:Nat→List UInt8→Scd
 | 0=>fun _=>([],[],0)
 | n+1=>Q1z (V1x n)
theorem H1j{f g:List UInt8→Scd}{l:List UInt8}(h:∀m,m.length<l.length→f m=g m):Q1z f l=Q1z g l:=by
 unfold Q1z
 cases l with
 | nil=>rfl
 | cons b r =>
  have hr:=h r (by simp)
  have hd:f ((b :: r).drop (((b :: r).getD 2 0).toNat+5))=g ((b :: r).drop (((b :: r).getD 2 0).toNat+5)):=h _ (by simp;omega)
  simp only[hr,hd]
theorem Q2g:∀(n:Nat) (l:List UInt8),l.length≤n→V1x n l=V1x l.length l:=by
 intro n
 induction n using Nat.strongRecOn with
 | _ n ih =>
  intro l hl
  cases l with
  | nil=>cases n<;>rfl
  | cons b r =>
   cases n with
   | zero=>simp at hl
   | succ n =>
    show Q1z (V1x n) (b :: r)=Q1z (V1x r.length) (b :: r)
    refine H1j fun m hm=>?_
    simp only[List.length_cons]at hm hl
    rw[ih n (by omega) m (by omega)]
    rcases Nat.lt_or_ge r.length (n+1) with h | h
    ·exact (ih r.length h m (by omega)).symm
    ·have:r.length=n:=by omega
     rw[this]
     exact (ih n (by omega) m (by omega)).symm
def B0w(l:List UInt8):Scd:=V1x l.length l
theorem V1y(l:List UInt8):B0w l=Q1z B0w l:=by
 cases l with
 | nil=>rfl
 | cons b r =>
  show Q1z (V1x r.length) (b :: r)=_
  refine H1j fun m hm=>?_
  simp only[List.length_cons]at hm
  exact Q2g r.length m (by omega)
theorem L0y:B0w []=([],[],0):=rfl
theorem M0w{b:UInt8}{r:List UInt8}(h:b≠165):B0w (b :: r)=N0m (B0w r):=by
 rw[V1y]
 show (if b=165 then _ else _)=_
 rw[if_neg h]
def addO(o:Nat)(x:Scd):Scd:=(x.1,x.2.1,x.2.2+o)
theorem Q2t(o:Nat)(x:Scd):N0m (addO o x)=addO (o+1) x:=by unfold addO N0m;simp only[Prod.mk.injEq,true_and];omega
theorem C1p:∀(i:Nat) (l:List UInt8),i≤l.length→(∀j,j<i→l.getD j 0≠165)→B0w l=addO i (B0w (l.drop i))
 | 0,l,_,_=>by simp[addO]
 | i+1,[],h,_=>by simp at h
 | i+1,b :: r,h,hn=>by
  have h0:b≠165:=hn 0 (by omega)
  rw[M0w h0,C1p i r (by simpa using h) fun j hj=>by simpa using hn (j+1) (by omega),List.drop_succ_cons,Q2t]
theorem Q2k{l:List UInt8}(h:∀j,j<l.length→l.getD j 0≠165):B0w l=([],[],l.length):=by
 rw[C1p l.length l (Nat.le_refl _) h,List.drop_length,L0y]
 simp[addO]
theorem G1u{l:List UInt8}(h:(B0d (bsL l)).b=true):(l.getD 2 0).toNat≤64∧5≤l.length:=by
 unfold B0d at h
 dsimp only at h
 rw[G0b]at h
 split at h
 ·rename_i g
  obtain ⟨g1,g2,g3⟩:=g
  refine ⟨?_,g1⟩
  rw[g3]
  unfold H0m G0j
  show (UInt8.ofNat _).toNat≤64
  have :=N0z (x:=((l.drop 3).take (l.length-5)).length) (by omega)
  omega
 ·cases h
theorem A1p:∀(l:List UInt8) (c:UInt8),(Lib.indexByte l c=-1∧∀j,j<l.length→l.getD j 0≠c)∨∃i:Nat,Lib.indexByte l c=i∧i<l.length∧l.getD i 0=c∧∀j,j<i→l.getD j 0≠c
 | [],c=>.inl ⟨rfl,fun j h=>by simp at h⟩
 | b :: l,c=>by
  unfold Lib.indexByte
  by_cases hb:b=c
  ·exact .inr ⟨0,by simp[hb],by simp,hb,fun j h=>by omega⟩
  ·have e:(b==c)=false:=beq_eq_false_iff_ne.2 hb
   rw[e]
   simp only[Bool.false_eq_true,if_false]
   rcases A1p l c with ⟨h1,h2⟩ | ⟨i,h1,h2,h3,h4⟩
   ·left
    rw[h1]
    refine ⟨by simp,fun j hj=>?_⟩
    cases j with
    | zero=>exact hb
    | succ j=>simpa using h2 j (by simpa using hj)
   ·right
    rw[h1]
    have:((i:Int)==-1)=false:=beq_eq_false_iff_ne.2 (by omega)
    rw[this]
    refine ⟨i+1,by simp,by simpa using h2,by simpa using h3,fun j hj=>?_⟩
    cases j with
    | zero=>exact hb
    | succ j=>simpa using h4 j (by omega)
theorem Q2j{l:List UInt8}(h0:l.getD 0 0=165)(hl:0<l.length) :
  B0w l=if l.length<3 then ([],l,0) else if (l.getD 2 0).toNat+5>l.length∧(l.getD 2 0).toNat+5≤69 then ([],l,0) else
   if (B0d (bsL (l.take (min ((l.getD 2 0).toNat+5) l.length)))).b then D1p (B0d (bsL (l.take (min ((l.getD 2 0).toNat+5) l.length)))).a (B0w (l.drop ((l.getD 2 0).toNat+5))) else N0m (B0w (l.drop 1)):=by
 cases l with
 | nil=>simp at hl
 | cons b r =>
  have hb:b=165:=h0
  rw[V1y]
  show (if b=165 then _ else _)=_
  rw[if_pos hb,List.drop_one,List.tail_cons]
  by_cases h3:(b :: r).length<3
  ·rw[if_pos h3,if_pos h3]
  rw[if_neg h3,if_neg h3]
  generalize hm:((b :: r).getD 2 0).toNat=m
  by_cases h64:64<m
  ·rw[if_pos h64,if_neg (fun g=>by omega)]
   have hno:¬ (B0d (bsL ((b :: r).take (min (m+5) (b :: r).length)))).b=true:=by
    intro g
    have :=(G1u g).1
    have e:((b :: r).take (min (m+5) (b :: r).length)).getD 2 0=(b :: r).getD 2 0:=by
     rw[List.getD_eq_getElem?_getD,List.getD_eq_getElem?_getD,List.getElem?_take]
     rw[if_pos (by simp only[List.length_cons]at h3 ⊢;omega)]
    rw[e,hm]at this
    omega
   rw[if_neg hno]
  ·rw[if_neg h64]
   by_cases h5:(b :: r).length<m+5
   ·rw[if_pos h5,if_pos ⟨h5,by omega⟩]
   ·have e:min (m+5) (b :: r).length=m+5:=by omega
    rw[if_neg h5,e]
    exact (if_neg (c:=m+5>(b :: r).length∧m+5≤69) fun g=>h5 g.1).symm
end Go.Ab
namespace Go.Ab
open Go Go.Proofs
theorem A0t.get{F:Nat→Prop}{w0:World}{N:Nat}{s:St}{a:Act}{w:World}(h:A0t F w0 N s a w){t:Nat}{v:Value}(ht:s.tmps[t]?=some (.val v)):a.tmps[t]?=some v:=by
  obtain ⟨σ,h1,_⟩:=h
  obtain ⟨x,h1,h2⟩:=h1.tmp ht
  simp only[Rel]at h2
  rw[h1,h2]
theorem A0t.act{F:Nat→Prop}{w0:World}{N:Nat}{s:St}{a:Act}{w:World}(h:A0t F w0 N s a w):a.defers=[]∧a.tmps.size=N:=by
  obtain ⟨σ,⟨⟨u,hf,_⟩,_⟩,_⟩:=h
  exact ⟨hf.defers,hf.size⟩
theorem A0t.own{F:Nat→Prop}{w0:World}{N:Nat}{s:St}{a:Act}{w:World}(h:A0t F w0 N s a w){t b e:Nat}{vs:List Value}(ht:s.tmps[t]?=some (.ptr b 0))(hb:hget s.heap b=some (.row e (vs.map .val))) :
    ∃r,a.tmps[t]?=some (.pointer (some ⟨r,0,none⟩))∧w.heap[r]?=some (.cells (List.toArray vs) e (0,0)):=by
  obtain ⟨σ,h1,_⟩:=h
  obtain ⟨x,h2,h3⟩:=h1.tmp ht
  simp only[Rel]at h3
  obtain ⟨r,h4,rfl⟩:=h3
  obtain ⟨⟨u,hf,hs⟩,_⟩:=h1
  obtain ⟨r',vs',h5,h6,h7⟩:=hf.row b e _ (hs _ _ (X1x rfl hb))
  rw[h4]at h5
  cases h5
  rw[C1e _ _ h7]at h6
  exact ⟨r,h2,h6⟩
theorem A0t.puts{F:Nat→Prop}{w0:World}{N:Nat}{w:World}:∀(sps:List Sp) {s:St} {a:Act},A0t F w0 N s a w→(∀x∈sps,x.d<N)→s.tmps.length=N→A0t F w0 N {s with tmps:=sps.foldl (fun l p=>l.set p.d (.val p.val)) s.tmps} (sps.foldl (fun a s=>a.put (some s.d) s.val) a) w
  | [],_,_,h,_,_=>h
  | p :: r,s,a,h,hd,hl=>by
    have h1:=h.put (hd p (List.mem_cons_self ..)) hl p.val
    have :=A0t.puts r h1 (fun x hx=>hd x (List.mem_cons_of_mem _ hx)) (by simp[hl])
    exact this
def B0r(x:Fr):List Value:=[.int .i64 x.kind,.string x.data]
def D0x(l:List Fr):List Value:=l.flatMap B0r
def D1x(s s':ByteArray)(l v' sl p:Value)(x:Fr)(m:Int):List Sp :=
  [⟨0,58,true,[(5,l)],l,none⟩,⟨1,59,true,[(9,p)],.agg (List.toArray (B0r x)),some (0,0)⟩,⟨2,60,true,[(59,.agg (List.toArray (B0r x)))],sl,some (0,1)⟩,⟨3,61,true,[(58,l),(60,sl)],v',some (1,2)⟩,
   ⟨4,62,true,[(0,.string s)],.string s,none⟩,⟨5,63,true,[(8,.int .i64 m)],.int .i64 m,none⟩,⟨6,64,true,[(62,.string s),(63,.int .i64 m)],.string s',none⟩,⟨7,5,true,[(61,v')],v',none⟩,⟨8,0,true,[(64,.string s')],.string s',none⟩]
theorem V4u(s s':ByteArray)(l v' sl p:Value)(x:Fr)(m:Int):H1r sO14.toList ((D1x s s' l v' sl p x m).map fun s=>s.it.foot)=true:=by kernel_rfl
theorem mixed:Tryz.prog.follows .mixedOrders=true:=by kernel_rfl
theorem E5x(s s':ByteArray)(l v' sl p:Value)(x:Fr)(m:Int):(D1x s s' l v' sl p x m).length=sO14.size:=by kernel_rfl
theorem X4w:B0a sO14 0=some (.move (.tmp 5),some 58,true):=by kernel_rfl
theorem X4x:B0a sO14 1=some (.load 74 (.tmp 9),some 59,true):=by kernel_rfl
theorem X4y:B0a sO14 2=some (.buildSlice 96 1 #[(0,.tmp 59)],some 60,true):=by kernel_rfl
theorem X4z:B0a sO14 3=some (.call {callee:=.builtin .append,args:=#[.tmp 58,.tmp 60],argTypes:=#[96,96]},some 61,true):=by kernel_rfl
theorem Y4a:B0a sO14 4=some (.move (.tmp 0),some 62,true):=by kernel_rfl
theorem Y4b:B0a sO14 5=some (.move (.tmp 8),some 63,true):=by kernel_rfl
theorem Y4c:B0a sO14 6=some (.slice 9 (.tmp 62) (some (.tmp 63)) none none,some 64,true):=by kernel_rfl
theorem Y4d:B0a sO14 7=some (.assign (.tmp 61),some 5,true):=by kernel_rfl
theorem Y4e:B0a sO14 8=some (.assign (.tmp 64),some 0,true):=by kernel_rfl
theorem v33:Tryz.prog.underlying 96=some (.slice 74):=by kernel_rfl
theorem i26b:(Tryz.prog.info? 74).map (fun i=>(i.size,i.bytes))=some (2,24):=by kernel_rfl
theorem i26z:((Tryz.prog.info? 74).bind (·.zero))=some (.agg #[.int .i64 0,.string ⟨#[]⟩]):=by kernel_rfl
theorem E2a(x:Fr):H0x Tryz.prog 96 1 [(0,.agg (List.toArray (B0r x)))]=some (74,B0r x):=by kernel_rfl
theorem E1y:∃ti,Tryz.prog.info? 74=some ti∧ti.size=2∧ti.bytes=24∧ti.zero=some (.agg #[.int .i64 0,.string ⟨#[]⟩]):=by
  cases hi:Tryz.prog.info? 74 with
  | none=>have :=i26b;rw[hi]at this;cases this
  | some ti =>
    have h1:=i26b
    have h2:=i26z
    rw[hi]at h1 h2
    simp only[Option.map_some,Option.some.injEq,Prod.mk.injEq,Option.bind_some]at h1 h2
    exact ⟨ti,rfl,h1.1,h1.2,h2⟩
theorem R4d:(Tryz.prog.underlying 74).map R0n=some true:=by kernel_rfl
theorem G0r{a:Act}{t:Nat}{v:Value}(h:a.tmps[t]?=some v):a.eval (.tmp t)=v:=by simp[Act.eval,h]
theorem N0n{P:Program}{ops:Array Oper}{W:Nat→World}{N:Nat}{s:Sp}{op:Op}(hs:B0a ops s.i=some (op,some s.d,true))(hd:s.d<N)(hon:s.on=true)
    (h:∀o:Oper,o.op=op→match s.tok with
      | none=>∀(a:Act) (w:World),Z1q s a→(execOp a.eval o).run P w=.ok (.value s.val) w
      | some (n,m)=>∀a:Act,Z1q s a→(execOp a.eval o).run P (W n)=.ok (.value s.val) (W m)):SpOk P ops W N s:=by
  obtain ⟨o,ho,hop,hdst,hg⟩:=D0n hs
  exact ⟨hd,o,ho,hdst,fun a _=>by rw[hon];simp[Region.wanted,hg],(fun h'=>by rw[hon]at h';cases h'),fun _=>h o hop⟩
theorem Z2q{P:Program}{t:TypeId}{s:ByteArray}{m:Int}(hu:P.underlying t=some .string)(h0:0≤m)(h1:m≤s.size)(w:World):(Instr.sliceAt t (.string s) (some (.int .i64 m)) none none).run P w=.ok (.string (s.extract m.toNat s.size)) w:=by
  rw[run_sliceAt_string w t _ _ _ _ hu,run_slice_string_l w t s hu .i64 m h0 h1]
theorem C1k{P:Program}{w:World}{t e:TypeId}{d:TypeDesc}{i:TypeInfo}{r:Nat}{cs:List Value}(hd:P.underlying t=some d)(hagg:R0n d=true)(hi:P.info? t=some i)(hr:w.heap[r]?=some (.cells (List.toArray cs) e (0,0)))(hl:cs.length=i.size) :
    (loadVar t ⟨r,0,none⟩).run P w=.ok (.agg (List.toArray cs)) w:=by
  have hc:=E0a (P:=P) w r 0 i.size e (0,0) cs cs hr (by rw[List.drop_zero,← hl,List.take_length]) hl
  unfold loadVar
  rw[Sem.run_bind,M0v hd w,hagg]
  simp only[Result.andThen_ok,if_true,Sem.run_bind,B0q hi w,hc,Sem.run_pure]
theorem P4b{W:Nat→World}{s:ByteArray}{l v':Value}{x:Fr}{m:Int}{r:Nat}(h0:0≤m)(hm:m≤s.size)(hrow:(W 0).heap[r]?=some (.cells (List.toArray (B0r x)) 74 (0,0)))
    (h1:W 1=(W 0).alloc (.cells (List.toArray (B0r x)) 74)) (h2:∀ty,(Builtin.append_ #[96,96] ty #[l,.slice (some ⟨(W 0).heap.size,0,none⟩) 1 1]).run Tryz.prog (W 1)=.ok v' (W 2)) :
    ∀q∈D1x s (s.extract m.toNat s.size) l v' (.slice (some ⟨(W 0).heap.size,0,none⟩) 1 1) (.pointer (some ⟨r,0,none⟩)) x m,SpOk Tryz.prog sO14 W 69 q:=by
  obtain ⟨ti,hti,ts,tb,tz⟩:=E1y
  obtain ⟨td,htd,hag⟩:∃td,Tryz.prog.underlying 74=some td∧R0n td=true:=by
    have :=R4d
    cases h:Tryz.prog.underlying 74 with
    | none=>rw[h]at this;cases this
    | some td=>rw[h]at this;exact ⟨td,rfl,by simpa using this⟩
  intro q hq
  simp only[D1x,List.mem_cons,List.not_mem_nil,or_false]at hq
  rcases hq with rfl | rfl | rfl | rfl | rfl | rfl | rfl | rfl | rfl
  · refine N0n X4w (by dsimp only;omega) rfl fun o ho a w hr=>?_
    have :=G0r (hr (5,l) (by simp))
    simp only[execOp,ho,this,Sem.run_pure]
  · refine N0n X4x (by dsimp only;omega) rfl fun o ho a hr=>?_
    have :=G0r (hr (9,.pointer (some ⟨r,0,none⟩)) (by simp))
    simp only[execOp,ho,Instr.loadAt,this,Instr.sureAddr,Sem.run_bind,Sem.run_pure,Result.andThen_ok,C1k htd hag hti hrow (by rw[ts];rfl)]
  · refine N0n X4y (by dsimp only;omega) rfl fun o ho a hr=>?_
    have :=G0r (hr (59,.agg (List.toArray (B0r x))) (by simp))
    have e1:(#[(0,Operand.tmp 59)].map fun (p:Nat×Operand)=>(p.1,a.eval p.2))=List.toArray [(0,Value.agg (List.toArray (B0r x)))]:=by simp[this]
    have e2:=M0c (P:=Tryz.prog) (E2a x) (W 0)
    rw[← e1]at e2
    simp only[execOp,ho,Sem.run_bind,e2,h1]
    rfl
  · refine N0n X4z (by dsimp only;omega) rfl fun o ho a hr=>?_
    have hx:=G0r (hr (58,l) (by simp))
    have hy:=G0r (hr (60,.slice (some ⟨(W 0).heap.size,0,none⟩) 1 1) (by simp))
    simp only[execOp,ho,resolve,invoke,Go.builtin,Sem.run_bind,Sem.run_pure,Result.andThen_ok,hx,hy,List.map_toArray,List.map_cons,List.map_nil,h2]
  · refine N0n Y4a (by dsimp only;omega) rfl fun o ho a w hr=>?_
    have :=G0r (hr (0,.string s) (by simp))
    simp only[execOp,ho,this,Sem.run_pure]
  · refine N0n Y4b (by dsimp only;omega) rfl fun o ho a w hr=>?_
    have :=G0r (hr (8,.int .i64 m) (by simp))
    simp only[execOp,ho,this,Sem.run_pure]
  · refine N0n Y4c (by dsimp only;omega) rfl fun o ho a w hr=>?_
    have hx:=G0r (hr (62,.string s) (by simp))
    have hy:=G0r (hr (63,.int .i64 m) (by simp))
    simp only[execOp,ho,hx,hy,Option.map_some,Option.map_none,Sem.run_bind,Z2q v9 h0 hm w,Result.andThen_ok,Sem.run_pure]
  · refine N0n Y4d (by dsimp only;omega) rfl fun o ho a w hr=>?_
    have :=G0r (hr (61,v') (by simp))
    simp only[execOp,ho,this,Sem.run_pure]
  · refine N0n Y4e (by dsimp only;omega) rfl fun o ho a w hr=>?_
    have :=G0r (hr (64,.string (s.extract m.toNat s.size)) (by simp))
    simp only[execOp,ho,this,Sem.run_pure]
theorem W3j{f:Nat→Option Value}{s s':ByteArray}{l v' sl p:Value}{x:Fr}{m:Int}(h5:f 5=some l)(h9:f 9=some p)(h0:f 0=some (.string s))(h8:f 8=some (.int .i64 m)):ChOk (D1x s s' l v' sl p x m) f 0 2:=by
  unfold D1x
  simp[ChOk,h5,h9,h0,h8]
theorem wk14(s s':ByteArray)(a:Option Addr)(n c:Nat)(o m:Int)(x:Two Fr Bool)(g:Option Addr)(n' c':Nat)(sl p:Value) :
  G0k [] (Q0c 69 [0,5,6]) {sY s a n c o m x with tmps:=(D1x s s' (.slice a n c) (.slice g n' c') sl p x.a m).foldl (fun l p=>l.set p.d (.val p.val)) (sY s a n c o m x).tmps}={sS s' g n' c' o []with lo:=fr2}:=by kernel_rfl
theorem cl14(s:ByteArray)(a:Option Addr)(n c:Nat)(o:Int):A0p 4096 {sS s a n c o []with lo:=fr2}=true:=by kernel_rfl
theorem ct14(s:ByteArray)(a:Option Addr)(n c:Nat)(o:Int):({({sS s a n c o []with lo:=fr2}:St) with lo:=4096,hi:=frH}:St)=sS s a n c o []:=by kernel_rfl
theorem lY(s:ByteArray)(a:Option Addr)(n c:Nat)(o m:Int)(x:Two Fr Bool):(sY s a n c o m x).tmps.length=69:=by kernel_rfl
theorem hY(s:ByteArray)(a:Option Addr)(n c:Nat)(o m:Int)(x:Two Fr Bool):hget (sY s a n c o m x).heap 4096=some (.row 74 ((B0r x.a).map .val)):=by kernel_rfl
theorem Y1v{w:World}{r:Nat}{o:Obj}(h:w.heap[r]?=some o):r<w.heap.size:=by
 rw[Array.getElem?_eq_some_iff]at h
 exact h.1
theorem B2t{W0 wb:World}{F:Nat→Prop}{s:ByteArray}{a:Option Addr}{n c:Nat}{o m:Int}{x:Two Fr Bool}{fs:List Fr}{act:Act}{w:World}(L:Live W0 F wb)(hst:A0t F wb 69 (sY s a n c o m x) act w)
  (hown:wb.ownsRow W0.heap.size 74 2 (.slice a n c) n (D0x fs)) (hF:∀r,(Value.slice a n c).ownBlock=some r→F r) (hn:n≤1099511627776) (h0:0≤m) (hm:m≤s.size) {Q:Exit→Act→World→Prop}
  (hQ:∀F' wb' a' c' act' w',Live W0 F' wb'→A0t F' wb' 69 (sS (s.extract m.toNat s.size) a' (n+1) c' o []) act' w'→wb'.ownsRow W0.heap.size 74 2 (.slice a' (n+1) c') (n+1) (D0x (fs++[x.a]))→(∀r,(Value.slice a' (n+1) c').ownBlock=some r→F' r)→Q .normal act' w') :
  (Code.region 14 sO14 true).wp Tryz.prog Q act w:=by
 obtain ⟨ti,hti,ts,tb,tz⟩:=E1y
 obtain ⟨r,h9,hrow⟩:=hst.own (t:=9) (b:=4096) (vs:=B0r x.a) rfl (hY ..)
 obtain ⟨hd,hs⟩:=hst.act
 have hFlt:∀k,F k→k<w.heap.size:=fun k hk=>hst.keep.lt hk
 have hownw:=H0e (w':=w) hown fun k hk=>(hst.keep.frame k (hF k hk)).2
 have hbase:∀k,(Value.slice a n c).ownBlock=some k→W0.heap.size≤k:=by
  intro k hk
  rcases hown.2 with ⟨h1,_⟩ | ⟨g,c1,cur,h1,h2,_⟩
  ·rw[h1]at hk;cases hk
  ·rw[h1]at hk;cases hk;exact h2
 have hLs:=L.size hst
 generalize hw0:({w with drawn:=w.drawn+1}:World)=w00
 have hh0:w00.heap=w.heap:=by rw[← hw0]
 have h0os:w00.os=w.os∧w00.tape=w.tape∧w00.output=w.output:=by rw[← hw0];exact ⟨rfl,rfl,rfl⟩
 have hown0:=H0e (w':=w00) hownw fun k _=>by rw[hh0]
 generalize hw1:w00.alloc (.cells (List.toArray (B0r x.a)) 74)=w1
 have g1:=K0j w00 (.cells (List.toArray (B0r x.a)) 74)
 rw[hw1]at g1
 have hs1:w1.heap.size=w.heap.size+1:=by rw[← hw1,← hh0];exact Array.size_push ..
 have hnew:w1.heap[w00.heap.size]?=some (.cells (List.toArray (B0r x.a)) 74 (0,0)):=by
  rw[← hw1]
  show (w00.heap.push _)[w00.heap.size]?=_
  simp
 have hown1:=H0e (w':=w1) hown0 fun k hk=>g1.block k (by rw[hh0];exact hFlt k (hF k hk)) (by simp)
 obtain ⟨v',w2,hr2,own2,g2,n2⟩:=P0m (P:=Tryz.prog) w1 96 0 74 ti _ 2 24 v33 hti tz ts tb rfl (by omega) W0.heap.size _ n _ hown1 ⟨w00.heap.size,0,none⟩ 1 1 (B0r x.a) rfl
  (fun j u hj=>by
   rw[G0a,Nat.zero_add]
   simp only[World.cell?,hnew]
   simpa using hj) (fun u hu=>by simp only[B0r,List.mem_cons,List.not_mem_nil,or_false]at hu;rcases hu with rfl | rfl<;>rfl) (by simp only[maxLen];omega) (by omega) (by omega)
 have hv':∃g c',v'=.slice (some ⟨g,0,none⟩) (n+1) c'∧g<w2.heap.size:=by
  rcases own2.2 with ⟨_,h1⟩ | ⟨g,c',cur,e1,_,e3,_⟩
  ·omega
  ·exact ⟨g,c',e1,Y1v e3⟩
 obtain ⟨g,c',rfl,hgl⟩:=hv'
 have hsame:∀j,j<w.heap.size→(∀k,(Value.slice a n c).ownBlock=some k→k≠j)→w2.heap[j]?=w.heap[j]?:=by
  intro j hj hne
  rw[g2.block j (by omega) fun e=>hne j e.symm rfl,g1.block j (by rw[hh0];exact hj) (by simp),hh0]
 have hgrow:w.heap.size≤w2.heap.size:=by have :=g2.size;omega
 refine E2h (W:=fun | 0=>w00 | 1=>w1 | _=>w2) (N:=69) (e:=2) mixed (E5x s (s.extract m.toNat s.size) (.slice a n c) (.slice (some ⟨g,0,none⟩) (n+1) c') (.slice (some ⟨w00.heap.size,0,none⟩) 1 1) (.pointer (some ⟨r,0,none⟩)) x.a m) (fun k q hk=>?_) (V4u ..)
  (P4b (W:=fun | 0=>w00 | 1=>w1 | _=>w2) h0 hm (by show w00.heap[r]?=_;rw[hh0];exact hrow) hw1.symm hr2) hd hs hw0.symm (W3j (hst.get rfl) h9 (hst.get rfl) (hst.get rfl)) ?_
 ·match k,hk with
  | 0,hk=>cases hk;rfl
  | 1,hk=>cases hk;rfl
  | 2,hk=>cases hk;rfl
  | 3,hk=>cases hk;rfl
  | 4,hk=>cases hk;rfl
  | 5,hk=>cases hk;rfl
  | 6,hk=>cases hk;rfl
  | 7,hk=>cases hk;rfl
  | 8,hk=>cases hk;rfl
  | k+9,hk=>simp[D1x]at hk
 ·have hmv:=(hst.moved (w':=w2) hgrow fun j hj hnF=>hsame j hj fun k hk e=>hnF (by rw[← e];exact hF k hk)).puts (D1x s (s.extract m.toNat s.size) (.slice a n c) (.slice (some ⟨g,0,none⟩) (n+1) c') (.slice (some ⟨w00.heap.size,0,none⟩) 1 1) (.pointer (some ⟨r,0,none⟩)) x.a m)
   (fun q hq=>by
    simp only[D1x,List.mem_cons,List.not_mem_nil,or_false]at hq
    rcases hq with rfl | rfl | rfl | rfl | rfl | rfl | rfl | rfl | rfl<;>(dsimp only;omega)) (lY ..)
  have hwk:=hmv.weak (s':={sS (s.extract m.toNat s.size) (some ⟨g,0,none⟩) (n+1) c' o []with lo:=fr2}) (by
   rw[← wk14 s (s.extract m.toNat s.size) a n c o m x (some ⟨g,0,none⟩) (n+1) c' (.slice (some ⟨w00.heap.size,0,none⟩) 1 1) (.pointer (some ⟨r,0,none⟩))]
   exact C0e _ _ _) (Nat.le_refl _) (Nat.le_refl _)
  have hct:=hwk.cut (lo:=4096) (hi:=frH) (cl14 ..)
  rw[ct14]at hct
  refine hQ (Wide F w w2) w2 (some ⟨g,0,none⟩) c' _ w2 (L.step hst (g2.os.trans (g1.os.trans h0os.1)) (g2.tape.trans (g1.tape.trans h0os.2.1)) (g2.output.trans (g1.output.trans h0os.2.2)) hgrow fun j hj=>hsame j (by omega) fun k hk e=>by have :=hbase k hk;omega) hct ?_ fun k hk=>?_
  ·have e:D0x (fs++[x.a])=D0x fs++B0r x.a:=by unfold D0x;rw[List.flatMap_append];simp
   rw[e]
   exact own2
  ·cases hk
   rcases n2 g rfl with h | h
   ·exact .inl (hF g h)
   ·have h:w1.heap.size≤g:=h
    exact .inr ⟨by show w.heap.size≤g;omega,hgl⟩
def M1k(W0:World)(x:Scd)(v:Value)(w':World):Prop:=∃a c,v=.tuple #[.slice a x.1.length c,.string (bsL x.2.1),.int .i64 (x.2.2:Int)]∧w'.ownsRow W0.heap.size 74 2 (.slice a x.1.length c) x.1.length (D0x x.1)
def D3t(W0:World)(x:Scd)(act:Act)(w:World):Prop:=∃v,(results Tryz.f162 act.tmps).run Tryz.prog w=.ok v w∧act.defers=[]∧RowKit.Below W0.heap.size W0 w∧M1k W0 x v w
theorem L1n{W0 wb:World}{F:Nat→Prop}{s:St}{a:Option Addr}{n c:Nat}{fs:List Fr}{l:List UInt8}{o:Nat}{act:Act}{w:World}(L:Live W0 F wb)(hst:A0t F wb 69 s act w)(hown:wb.ownsRow W0.heap.size 74 2 (.slice a n c) n (D0x fs))(hF:∀r,(Value.slice a n c).ownBlock=some r→F r)(hn:fs.length=n)
  (hr:resA Tryz.prog s Tryz.f162.results.toList=some [.val (.slice a n c),.val (.string (bsL l)),.val (.int .i64 (o:Int))]):D3t W0 (fs,l,o) act w:=by
 obtain ⟨y1,y2,y3⟩:=hst.resultsV (P:=Tryz.prog) (fn:=Tryz.f162) (v:=.tuple #[.slice a n c,.string (bsL l),.int .i64 (o:Int)]) hr rfl
 subst hn
 exact ⟨_,y1,y2,(L.chain _ y3).below,a,c,rfl,H0e hown fun r hr=>(hst.keep.frame r (hF r hr)).2⟩
def catS(fs:List Fr)(o:Nat)(x:Scd):Scd:=(fs++x.1,x.2.1,o+x.2.2)
section
variable (s s':ByteArray) (a:Option Addr) (n c:Nat) (o i m:Int) (x:Two Fr Bool)
theorem oS0:A0g (mkSt 69 [0] [.string s] [] [] [] 4096 frH frT)=true:=by kernel_rfl
theorem oS1:A0g (mkSt 69 [0,5] [.string s,.slice none 0 0] [] [] [] 4096 frH frT)=true:=by kernel_rfl
theorem oS2:A0g (sS s a n c o [])=true:=by kernel_rfl
theorem oS3:A0g (sS s a n c o [(7,.int .i64 i)])=true:=by kernel_rfl
theorem oS8:A0g (sS s a n c o [(8,.int .i64 i)])=true:=by kernel_rfl
theorem oS4:A0g (mkSt 69 [0,5,6,7,2,3,4] [.string s,.slice a n c,.int .i64 o,.int .i64 i,.slice a n c,.string ⟨#[]⟩,.int .i64 m] [] [] [] 4096 frH frT)=true:=by kernel_rfl
theorem oS7:A0g (mkSt 69 [0,5,6,2,3,4] [.string s,.slice a n c,.int .i64 o,.slice a n c,.string s,.int .i64 o] [] [] [] 4096 frH frT)=true:=by kernel_rfl
theorem oS10:A0g (mkSt 69 [0,5,6,8,2,3,4] [.string s,.slice a n c,.int .i64 o,.int .i64 m,.slice a n c,.string s,.int .i64 o] [] [] [] 4096 frH frT)=true:=by kernel_rfl
theorem oSX:A0g (sX' s a n c o m x)=true:=by kernel_rfl
theorem oSY:A0g (sY s a n c o m x)=true:=by kernel_rfl
theorem oS15:A0g {sS s a n c o []with lo:=fr2}=true:=by kernel_rfl
theorem rS4:resA Tryz.prog (mkSt 69 [0,5,6,7,2,3,4] [.string s,.slice a n c,.int .i64 o,.int .i64 i,.slice a n c,.string ⟨#[]⟩,.int .i64 m] [] [] [] 4096 frH frT) Tryz.f162.results.toList=some [.val (.slice a n c),.val (.string ⟨#[]⟩),.val (.int .i64 m)]:=by kernel_rfl
theorem rS7:resA Tryz.prog (mkSt 69 [0,5,6,2,3,4] [.string s,.slice a n c,.int .i64 o,.slice a n c,.string s,.int .i64 o] [] [] [] 4096 frH frT) Tryz.f162.results.toList=some [.val (.slice a n c),.val (.string s),.val (.int .i64 o)]:=by kernel_rfl
theorem rS10:resA Tryz.prog (mkSt 69 [0,5,6,8,2,3,4] [.string s,.slice a n c,.int .i64 o,.int .i64 m,.slice a n c,.string s,.int .i64 o] [] [] [] 4096 frH frT) Tryz.f162.results.toList=some [.val (.slice a n c),.val (.string s),.val (.int .i64 o)]:=by kernel_rfl
end
theorem scG:GamOk Tryz.prog (R0k idxV szOk fun p=>B0d p.1):=.cons J5r (.cons L4g .nil)
theorem K0z:∀β,D0t Tryz.prog (B0v Tryz.prog {gam:=R0k idxV szOk fun p=>B0d p.1} 1 β):=B0b (E:={gam:=R0k idxV szOk fun p=>B0d p.1}) scG 1
structure SInv(W0:World)(S0 l:List UInt8)(fs:List Fr)(o:Nat)(F:Nat→Prop)(wb:World)(a:Option Addr)(n c:Nat)(act:Act)(w:World):Prop where
 live:Live W0 F wb
 stand:A0t F wb 69 (sS (bsL l) a n c o []) act w
 own:wb.ownsRow W0.heap.size 74 2 (.slice a n c) n (D0x fs)
 prot:∀r,(Value.slice a n c).ownBlock=some r→F r
 len:fs.length=n
 b1:n+l.length≤S0.length
 b2:o+l.length≤S0.length
 eq:B0w S0=catS fs o (B0w l)
theorem V0q(l:List UInt8)(i:Nat):(bsL l).extract i (bsL l).size=bsL (l.drop i):=by
 rw[K0n,B0z,List.take_of_length_le (by simp)]
theorem A3a(l:List UInt8)(i:Nat):(bsL l).extract 0 i=bsL (l.take i):=by
 rw[K0n,List.drop_zero,Nat.sub_zero]
theorem D2w(l:List UInt8):J0n (bsL l) 2=(l.getD 2 0).toNat:=by unfold J0n;rw[G0b];rfl
theorem M5g{s:ByteArray}{a:Option Addr}{n c:Nat}{o m:Int}(h:¬ (m>(s.size:Int)∧m≤69)):C0t (R0k idxV szOk fun p=>B0d p.1) 69 sc10 (sS s a n c o [(8,.int .i64 m)]) [] [0,2,3,4,5,6,8]=some (.normal,sS s a n c o [(8,.int .i64 m)]):=by
 rw[sr10]
 by_cases c8:m>(s.size:Int)
 ·rw[decide_eq_true c8,decide_eq_false (p:=m≤69) fun g=>h ⟨c8,g⟩]
  simp only[cond_true,cond_false]
 ·rw[decide_eq_false c8]
  simp only[cond_false]
noncomputable def L5v:Code:=.seq sc9 (.seq sc10 (.seq sc12 (.seq sc13 (.cond (.tmp 57) (.region 14 sO14 true) sc15))))
section
variable {W0:World} {S0:List UInt8} {Q:Exit→Act→World→Prop}
abbrev GoOn(W0:World)(S0:List UInt8)(k:Nat)(Q:Exit→Act→World→Prop):Prop:=∀l' fs' o' F' wb' a' n' c' act' w',l'.length<k→SInv W0 S0 l' fs' o' F' wb' a' n' c' act' w'→Q .normal act' w'
abbrev V3k(W0:World)(S0:List UInt8)(Q:Exit→Act→World→Prop):Prop:=∀act' w',D3t W0 (B0w S0) act' w'→Q .ret act' w'
theorem Q2m(hS:S0.length≤1099511627776){l':List UInt8}{fs:List Fr}{o k:Nat}{F:Nat→Prop}{wb:World}{a:Option Addr}{n c:Nat}{act:Act}{w:World}{m:Nat}{x:Two Fr Bool}(L:Live W0 F wb)(h8:A0t F wb 69 (sY (bsL l') a n c o (m+5:Nat) x) act w)
  (hown:wb.ownsRow W0.heap.size 74 2 (.slice a n c) n (D0x fs)) (hF:∀r,(Value.slice a n c).ownBlock=some r→F r) (hlen:fs.length=n) (hb1:n+l'.length≤S0.length) (hb2:o+l'.length≤S0.length) (hk:l'.length≤k) (h3:3≤l'.length)
  (hm5:x.b=true→m+5≤l'.length) (heq:B0w S0=catS fs o (if x.b then D1p x.a (B0w (l'.drop (m+5))) else N0m (B0w (l'.drop 1)))) (hN:GoOn W0 S0 k Q):(Code.cond (.tmp 57) (.region 14 sO14 true) sc15).wp Tryz.prog Q act w:=by
 have hsz':=B0z l'
 cases hxb:x.b with
 | true =>
  rw[hxb,if_pos rfl]at heq
  have hm:=hm5 hxb
  refine wp_cond_true ((h8.eval (t:=57) rfl).trans (by rw[hxb])) (B2t (m:=(m+5:Nat)) L h8 hown hF (by omega) (by omega) (by omega) fun F' wb' a' c' act' w' L' hst' hown' hF'=>?_)
  rw[Int.toNat_natCast,V0q]at hst'
  have hd:(l'.drop (m+5)).length=l'.length-(m+5):=List.length_drop ..
  refine hN (l'.drop (m+5)) (fs++[x.a]) o F' wb' a' (n+1) c' act' w' (by omega) ⟨L',hst',hown',hF',by simp[hlen],by omega,by omega,?_⟩
  rw[heq]
  unfold catS D1p
  simp
 | false =>
  rw[hxb,if_neg (by simp)]at heq
  have hrun:=sr15 idxV szOk (fun p=>B0d p.1) (bsL l') a n c o (m+5:Nat) x
  rw[decide_eq_true (p:=0≤(1:Int)∧1≤((bsL l').size:Int)∧((bsL l').size:Int)≤((bsL l').size:Int)) (by omega),cond_true,Int.toNat_natCast,show Int.toNat 1=1 from rfl,V0q,show IntKind.i64.wrap (((o:Nat):Int)+1)=((o+1:Nat):Int) by rw[C0k];omega]at hrun
  refine wp_cond_false ((h8.eval (t:=57) rfl).trans (by rw[hxb])) ((A0e K0z _ _ hrun).stand (oS15 ..) h8 fun a9 w9 h9=>?_)
  have hct:=h9.cut (lo:=4096) (hi:=frH) (cl14 ..)
  rw[ct14]at hct
  have hd:(l'.drop 1).length=l'.length-1:=List.length_drop ..
  refine hN (l'.drop 1) fs (o+1) F wb a n c a9 w9 (by omega) ⟨L,hct,hown,hF,hlen,by omega,by omega,?_⟩
  rw[heq]
  unfold catS N0m
  simp only[Prod.mk.injEq,true_and]
  omega
theorem Z2r(hS:S0.length≤1099511627776){l':List UInt8}{fs:List Fr}{o k:Nat}{F:Nat→Prop}{wb:World}{a:Option Addr}{n c:Nat}{act:Act}{w:World}(L:Live W0 F wb)(h4:A0t F wb 69 (sS (bsL l') a n c o []) act w)
  (hown:wb.ownsRow W0.heap.size 74 2 (.slice a n c) n (D0x fs)) (hF:∀r,(Value.slice a n c).ownBlock=some r→F r) (hlen:fs.length=n) (hb1:n+l'.length≤S0.length) (hb2:o+l'.length≤S0.length) (hk:l'.length≤k) (c3:¬ l'.length<3)
  (heq2:B0w S0=catS fs o (if (l'.getD 2 0).toNat+5>l'.length∧(l'.getD 2 0).toNat+5≤69 then ([],l',0) else
   if (B0d (bsL (l'.take (min ((l'.getD 2 0).toNat+5) l'.length)))).b then D1p (B0d (bsL (l'.take (min ((l'.getD 2 0).toNat+5) l'.length)))).a (B0w (l'.drop ((l'.getD 2 0).toNat+5))) else N0m (B0w (l'.drop 1)))) (hN:GoOn W0 S0 k Q) (hR:V3k W0 S0 Q):L5v.wp Tryz.prog Q act w:=by
 have hsz':=B0z l'
 have hm0:=(l'.getD 2 0).toNat_lt
 have hthird:(l'.take (min ((l'.getD 2 0).toNat+5) l'.length)).getD 2 0=l'.getD 2 0:=by
  rw[List.getD_eq_getElem?_getD,List.getD_eq_getElem?_getD,List.getElem?_take,if_pos (by omega)]
 have h64:(B0d (bsL (l'.take (min ((l'.getD 2 0).toNat+5) l'.length)))).b=true→(l'.getD 2 0).toNat≤64:=by
  intro g
  have :=(G1u g).1
  rwa [hthird]at this
 have hrun:=sr9 idxV szOk (fun p=>B0d p.1) (bsL l') a n c o
 rw[decide_eq_true (p:=0≤(2:Int)∧2<((bsL l').size:Int)) (by omega),cond_true,D2w]at hrun
 generalize (l'.getD 2 0).toNat=m at hm0 h64 hrun heq2
 rw[show IntKind.i64.wrap (IntKind.i64.wrap (m:Int)+5)=((m+5:Nat):Int) by rw[C0k,C0k];omega]at hrun
 refine wp_seq ((A0e K0z _ _ hrun).stand (oS8 ..) h4 fun a5 w5 h5=>?_)
 by_cases c10:m+5>l'.length∧m+5≤69
 ·have hrun:=sr10 idxV szOk (fun p=>B0d p.1) (bsL l') a n c o (m+5:Nat)
  rw[decide_eq_true (p:=((m+5:Nat):Int)>((bsL l').size:Int)) (by omega),cond_true,decide_eq_true (p:=((m+5:Nat):Int)≤69) (by omega)]at hrun
  simp only[cond_true]at hrun
  refine wp_seq ((A0e K0z _ _ hrun).stand (oS10 ..) h5 fun a6 w6 h6=>hR a6 w6 ?_)
  have hx:B0w S0=(fs,l',o):=by rw[heq2,if_pos c10];simp[catS]
  rw[hx]
  exact L1n L h6 hown hF hlen (rS10 ..)
 rw[if_neg c10]at heq2
 refine wp_seq ((A0e K0z _ _ (M5g (m:=(m+5:Nat)) fun g=>c10 (by omega))).stand (oS8 ..) h5 fun a6 w6 h6=>?_)
 have hrun:=sr12 idxV szOk (fun p=>B0d p.1) (bsL l') a n c o (m+5:Nat)
 dsimp only at hrun
 have hq:minI ((m+5:Nat):Int) ((bsL l').size:Int)=((min (m+5) l'.length:Nat):Int):=by unfold minI;split<;>omega
 rw[hq,decide_eq_true (p:=0≤((0:Nat):Int)∧((0:Nat):Int)≤((min (m+5) l'.length:Nat):Int)∧((min (m+5) l'.length:Nat):Int)≤((bsL l').size:Int)) (by omega),cond_true,Int.toNat_natCast,Int.toNat_natCast,A3a]at hrun
 have hpre:szOk (bsL (l'.take (min (m+5) l'.length)),())=true:=decide_eq_true (by show (bsL _).size≤_;rw[B0z,List.length_take];omega)
 rw[hpre,cond_true]at hrun
 refine wp_seq ((A0e K0z _ _ hrun).stand (oSX ..) h6 fun a7 w7 h7=>?_)
 refine wp_seq ((A0e K0z _ _ (sr13 idxV szOk (fun p=>B0d p.1) (bsL l') a n c o (m+5:Nat) (B0d (bsL (l'.take (min (m+5) l'.length)))))).stand (oSY ..) h7 fun a8 w8 h8=>?_)
 exact Q2m hS L h8 hown hF hlen hb1 hb2 hk (by omega) (fun g=>by have :=h64 g;omega) heq2 hN
theorem Q1v(hS:S0.length≤1099511627776){l:List UInt8}{fs:List Fr}{o:Nat}{F:Nat→Prop}{wb:World}{a:Option Addr}{n c:Nat}{act:Act}{w:World}(I:SInv W0 S0 l fs o F wb a n c act w)(hN:GoOn W0 S0 l.length Q)(hR:V3k W0 S0 Q):(Code.block 1 sB).wp Tryz.prog Q act w:=by
 obtain ⟨L,hst,hown,hF,hlen,hb1,hb2,heq⟩:=I
 refine wp_block ?_
 rw[M5a]
 refine wp_seq ((A0e K0z _ _ (sr3 idxV szOk (fun p=>B0d p.1) (bsL l) a n c o)).stand (oS3 ..) hst fun a1 w1 h1=>?_)
 have hidx:idxV (bsL l,⟨165⟩,())=Lib.indexByte l 165:=by unfold idxV;rw[G0b];rfl
 rw[hidx]at h1
 have hsz:=B0z l
 rcases A1p l 165 with ⟨hi,hno⟩ | ⟨i,hi,hil,hi0,hij⟩
 ·rw[hi]at h1
  have hrun:=sr4 idxV szOk (fun p=>B0d p.1) (bsL l) a n c o (-1)
  rw[decide_eq_true (p:=(-1:Int)<0) (by decide),cond_true,show IntKind.i64.wrap ((o:Int)+((bsL l).size:Int))=((o+l.length:Nat):Int) by rw[B0z,C0k];omega]at hrun
  refine wp_seq ((A0e K0z _ _ hrun).stand (oS4 ..) h1 fun a2 w2 h2=>hR a2 w2 ?_)
  have hx:B0w S0=(fs,[],o+l.length):=by rw[heq,Q2k hno];simp[catS]
  rw[hx]
  exact L1n (l:=[]) L h2 hown hF hlen (rS4 ..)
 rw[hi]at h1
 have hrun:=sr4 idxV szOk (fun p=>B0d p.1) (bsL l) a n c o i
 rw[decide_eq_false (p:=(i:Int)<0) (by omega),cond_false]at hrun
 refine wp_seq ((A0e K0z _ _ hrun).stand (oS3 ..) h1 fun a2 w2 h2=>?_)
 have hrun:=sr6 idxV szOk (fun p=>B0d p.1) (bsL l) a n c o i
 rw[decide_eq_true (p:=0≤(i:Int)∧(i:Int)≤((bsL l).size:Int)∧((bsL l).size:Int)≤((bsL l).size:Int)) (by omega),cond_true,Int.toNat_natCast,Int.toNat_natCast,V0q,show IntKind.i64.wrap ((o:Int)+(i:Int))=((o+i:Nat):Int) by rw[C0k];omega]at hrun
 refine wp_seq ((A0e K0z _ _ hrun).stand (oS2 ..) h2 fun a3 w3 h3=>?_)
 have hll:(l.drop i).length=l.length-i:=List.length_drop ..
 have hl0:(l.drop i).getD 0 0=165:=by
  rw[List.getD_eq_getElem?_getD,List.getElem?_drop,Nat.add_zero,← List.getD_eq_getElem?_getD]
  exact hi0
 have heq2:B0w S0=catS fs (o+i) (B0w (l.drop i)):=by
  rw[heq,C1p i l (by omega) hij]
  unfold catS addO
  simp only[Prod.mk.injEq,true_and]
  omega
 generalize hl':l.drop i=l' at h3 hll hl0 heq2
 rw[Q2j hl0 (by omega)]at heq2
 have hsz':=B0z l'
 have hrun:=sr7 idxV szOk (fun p=>B0d p.1) (bsL l') a n c (o+i:Nat)
 by_cases c3:l'.length<3
 ·rw[decide_eq_true (p:=((bsL l').size:Int)<3) (by omega),cond_true]at hrun
  refine wp_seq ((A0e K0z _ _ hrun).stand (oS7 ..) h3 fun a4 w4 h4=>hR a4 w4 ?_)
  have hx:B0w S0=(fs,l',o+i):=by rw[heq2,if_pos c3];simp[catS]
  rw[hx]
  exact L1n L h4 hown hF hlen (rS7 ..)
 rw[decide_eq_false (p:=((bsL l').size:Int)<3) (by omega),cond_false]at hrun
 rw[if_neg c3]at heq2
 refine wp_seq ((A0e K0z _ _ hrun).stand (oS2 ..) h3 fun a4 w4 h4=>?_)
 exact Z2r (o:=o+i) hS L h4 hown hF hlen (by omega) (by omega) (by omega) c3 heq2 hN hR
end
theorem W1a{W0:World}{S0:List UInt8}(hS:S0.length≤1099511627776){Q:Exit→Act→World→Prop}(hR:∀act' w',D3t W0 (B0w S0) act' w'→Q .ret act' w') :
  ∀(k:Nat) (l:List UInt8) (fs:List Fr) (o:Nat) (F:Nat→Prop) (wb:World) (a:Option Addr) (n c:Nat) (act:Act) (w:World),l.length≤k→SInv W0 S0 l fs o F wb a n c act w→Code.rounds Tryz.prog (.block 1 sB) Q (k+1) act w:=by
 intro k
 induction k with
 | zero =>
  intro l fs o F wb a n c act w hk I
  rw[rounds_succ]
  exact Q1v hS I (fun l' _ _ _ _ _ _ _ _ _ h _=>by omega) fun act' w' h=>hR act' w' h
 | succ k ih =>
  intro l fs o F wb a n c act w hk I
  rw[rounds_succ]
  exact Q1v hS I (fun l' fs' o' F' wb' a' n' c' act' w' h I'=>ih l' fs' o' F' wb' a' n' c' act' w' (by omega) I') fun act' w' h=>hR act' w' h
theorem B3x:Tryz.prog.funcs[162]?=some Tryz.f162:=by kernel_rfl
theorem B2r(s:ByteArray)(hS:s.size≤1099511627776)(w:World):Calls Tryz.prog 162 #[.string s] w fun e w'=>∃v,e=.returned v∧RowKit.Below w.heap.size w w'∧M1k w (B0w s.data.toList) v w':=by
 refine calls_of_wp B3x M5b ?_
 have hst:=A0t.start (N:=69) [.string s] w 4096 frH frT (by simp)
 refine wp_seq ((A0e K0z _ _ (sr0 idxV szOk (fun p=>B0d p.1) s)).stand (oS0 ..) hst fun a1 w1 h1=>?_)
 refine wp_seq ((A0e K0z _ _ (sr1 idxV szOk (fun p=>B0d p.1) s)).stand (oS1 ..) h1 fun a2 w2 h2=>?_)
 refine wp_seq ((A0e K0z _ _ (sr2 idxV szOk (fun p=>B0d p.1) s)).stand (oS2 ..) h2 fun a3 w3 h3=>?_)
 have hl:s.data.toList.length=s.size:=rfl
 have I:SInv w s.data.toList s.data.toList [] 0 (fun k=>k<w.heap.size) w none 0 0 a3 w3:=⟨Live.start w,by rw[H0y];exact h3,⟨rfl,.inl ⟨rfl,rfl⟩⟩,fun r hr=>by (cases hr),rfl,by omega,by omega,by simp[catS]⟩
 refine wp_block (wp_loop_rounds (s.size+1) (W1a (W0:=w) (S0:=s.data.toList) (by omega) (fun act' w' h=>?_) s.size s.data.toList [] 0 _ w none 0 0 a3 w3 (by omega) I))
 obtain ⟨v,y1,y2,y3,y4⟩:=h
 exact (bodyPost_ret y1 y2 ⟨v,rfl,y3,y4⟩:bodyPost Tryz.prog Tryz.f162 (fun e w'=>∃v,e=.returned v∧RowKit.Below w.heap.size w w'∧M1k w (B0w s.data.toList) v w') .ret act' w')
noncomputable def rC:Code:=Tryz.f41.body.getD .skip
noncomputable def rc0:Code:=seqL rC
noncomputable def rc1:Code:=seqL (seqR rC)
noncomputable def rc2:Code:=seqL (seqR (seqR rC))
noncomputable def rc3:Code:=seqL (seqR (seqR (seqR rC)))
noncomputable def rT:Code:=seqR (seqR (seqR (seqR rC)))
noncomputable def rB:Code:=inB (inB (seqL rT))
noncomputable def rc22:Code:=seqR rT
noncomputable def rc4:Code:=seqL rB
noncomputable def rI:Code:=inB (seqR rB)
noncomputable def rc5:Code:=seqL rI
noncomputable def rc8:Code:=seqL (seqR rI)
noncomputable def rc10:Code:=seqL (seqR (seqR rI))
noncomputable def rT11:Code:=seqR (seqR (seqR rI))
noncomputable def rc11:Code:=seqL rT11
noncomputable def rc14:Code:=seqL (seqR rT11)
noncomputable def rT16:Code:=seqR (seqR rT11)
noncomputable def rc16:Code:=seqL rT16
noncomputable def rc17:Code:=seqL (seqR rT16)
noncomputable def rO20:Array Oper:=regO (seqL (seqR (seqR rT16)))
noncomputable def rc21:Code:=seqR (seqR (seqR rT16))
theorem K5g:Tryz.f41.body=some (.seq rc0 (.seq rc1 (.seq rc2 (.seq rc3 (.seq (.block 0 (.loop (.seq rc4 (.block 1 rI)))) rc22))))):=by kernel_rfl
theorem K5h:rI=.seq rc5 (.seq rc8 (.seq rc10 (.seq rc11 (.seq rc14 (.seq rc16 (.seq rc17 (.seq (.region 20 rO20 false) rc21))))))):=by kernel_rfl
def rS(s:ByteArray)(a:Option Addr)(n c:Nat)(o i:Int)(l:List (Nat×Value)):St:=mkSt 83 ([0,5,6,7]++l.map (·.1)) ([.string s,.slice a n c,.int .i64 o,.int .i64 i]++l.map (·.2)) [] [] [] 4096 frH frT
def rGam(po:ByteArray×Unit→Bool)(op:OpG):Gam:=[(29,S0w po op)]
section
variable (po:ByteArray×Unit→Bool) (op:OpG) (s:ByteArray) (a:Option Addr) (n c:Nat) (o i m:Int)
theorem rr0:C0t (rGam po op) 83 rc0 ⟨[Value.string s].map .val++List.replicate (83-[Value.string s].length) (.val undef),[],4096,frH,frT,[]⟩ [] [0]=some (.normal,mkSt 83 [0] [.string s] [] [] [] 4096 frH frT):=by kernel_rfl
theorem rr1:C0t (rGam po op) 83 rc1 (mkSt 83 [0] [.string s] [] [] [] 4096 frH frT) [] [0,5]=some (.normal,mkSt 83 [0,5] [.string s,.slice none 0 0] [] [] [] 4096 frH frT):=by kernel_rfl
theorem rr2:C0t (rGam po op) 83 rc2 (mkSt 83 [0,5] [.string s,.slice none 0 0] [] [] [] 4096 frH frT) [] [0,5,6]=some (.normal,mkSt 83 [0,5,6] [.string s,.slice none 0 0,.int .i64 0] [] [] [] 4096 frH frT):=by kernel_rfl
theorem rr3:C0t (rGam po op) 83 rc3 (mkSt 83 [0,5,6] [.string s,.slice none 0 0,.int .i64 0] [] [] [] 4096 frH frT) [] [0,5,6,7]=some (.normal,rS s none 0 0 0 0 []):=by kernel_rfl
theorem rr4:C0t (rGam po op) 83 rc4 (rS s a n c o i []) [] [0,5,6,7]=bif decide (i<(s.size:Int)) then some (.normal,{rS s a n c o i []with tmps:=(rS s a n c o i []).tmps}) else some (.exit 0,{rS s a n c o i []with tmps:=(rS s a n c o i []).tmps}):=by kernel_rfl
theorem rr5:C0t (rGam po op) 83 rc5 (rS s a n c o i []) [] [0,5,6,7]=bif decide (0≤i∧i<(s.size:Int)) then bif !(J0n s i==165) then some (.exit 1,rS s a n c (IntKind.i64.wrap (o+1)) (IntKind.i64.wrap (i+1)) []) else some (.normal,{rS s a n c o i []with tmps:=(rS s a n c o i []).tmps}) else none:=by kernel_rfl
theorem rr8:C0t (rGam po op) 83 rc8 (rS s a n c o i []) [] [0,2,3,4,5,6,7]=bif decide (IntKind.i64.wrap ((s.size:Int)-i)<3) then bif decide (0≤i∧i≤(s.size:Int)∧(s.size:Int)≤(s.size:Int)) then some (.ret,rS s a n c o i [(2,.slice a n c),(3,.string (s.extract i.toNat ((s.size:Nat):Int).toNat)),(4,.int .i64 o)]) else none else some (.normal,{rS s a n c o i []with tmps:=(rS s a n c o i []).tmps}):=by kernel_rfl
theorem rr10:C0t (rGam po op) 83 rc10 (rS s a n c o i []) [] [0,5,6,7,8]=bif decide (0≤IntKind.i64.wrap (i+2)∧IntKind.i64.wrap (i+2)<(s.size:Int)) then some (.normal,rS s a n c o i [(8,.int .i64 (IntKind.i64.wrap (J0n s (IntKind.i64.wrap (i+2)))))]) else none:=by kernel_rfl
theorem rr11:C0t (rGam po op) 83 rc11 (rS s a n c o i [(8,.int .i64 m)]) [] [0,5,6,7,8]=bif decide (m>64) then some (.exit 1,{rS s a n c (IntKind.i64.wrap (o+1)) (IntKind.i64.wrap (i+1)) [(8,.int .i64 m)]with lo:=4096}) else some (.normal,{rS s a n c o i [(8,.int .i64 m)]with tmps:=(rS s a n c o i [(8,.int .i64 m)]).tmps}):=by kernel_rfl
theorem rr14:C0t (rGam po op) 83 rc14 (rS s a n c o i [(8,.int .i64 m)]) [] [0,2,3,4,5,6,7,8]=bif decide (IntKind.i64.wrap ((s.size:Int)-i)<IntKind.i64.wrap (m+5)) then bif decide (0≤i∧i≤(s.size:Int)∧(s.size:Int)≤(s.size:Int)) then some (.ret,rS s a n c o i [(8,.int .i64 m),(2,.slice a n c),(3,.string (s.extract i.toNat ((s.size:Nat):Int).toNat)),(4,.int .i64 o)]) else none else some (.normal,{rS s a n c o i [(8,.int .i64 m)]with tmps:=(rS s a n c o i [(8,.int .i64 m)]).tmps}):=by kernel_rfl
def rX(s:ByteArray)(a:Option Addr)(n c:Nat)(o i m:Int)(x:Two Fr Bool):St:=mkSt 83 [0,5,6,7,8,10] [.string s,.slice a n c,.int .i64 o,.int .i64 i,.int .i64 m,.bool x.b] [(9,4096,0)] [(4096,74,2)] [.int .i64 x.a.kind,.string x.a.data] fr2 frH frT
theorem rr16:C0t (rGam po op) 83 rc16 (rS s a n c o i [(8,.int .i64 m)]) [4096] [0,5,6,7,8,9,10] =
  let q:=IntKind.i64.wrap (IntKind.i64.wrap (i+m)+5)
  let cut:=s.extract i.toNat q.toNat
  bif decide (0≤i∧i≤q∧q≤(s.size:Int)) then bif po (cut,()) then some (.normal,rX s a n c o i m (op (cut,()))) else none else none:=by kernel_rfl
theorem rr17(x:Two Fr Bool):C0t (rGam po op) 83 rc17 (rX s a n c o i m x) [4096] [0,5,6,7,8,9,10]=bif !x.b then some (.exit 1,{rX s a n c (IntKind.i64.wrap (o+1)) (IntKind.i64.wrap (i+1)) m x with lo:=fr2}) else some (.normal,{rX s a n c o i m x with tmps:=(rX s a n c o i m x).tmps}):=by kernel_rfl
theorem rr21:C0t (rGam po op) 83 rc21 (rS s a n c o i [(8,.int .i64 m)]) [] [0,5,6,7]=some (.normal,rS s a n c o (IntKind.i64.wrap (IntKind.i64.wrap (i+m)+5)) []):=by kernel_rfl
theorem rr22:C0t (rGam po op) 83 rc22 (rS s a n c o i []) [] [2,3,4]=some (.ret,mkSt 83 [2,3,4] [.slice a n c,.string ⟨#[]⟩,.int .i64 o] [] [] [] 4096 frH frT):=by kernel_rfl
theorem rg0:B0a rO20 0=some (.move (.tmp 5),some 73,true):=by kernel_rfl
theorem rg1:B0a rO20 1=some (.load 74 (.tmp 9),some 74,true):=by kernel_rfl
theorem rg2:B0a rO20 2=some (.buildSlice 96 1 #[(0,.tmp 74)],some 75,true):=by kernel_rfl
theorem rg3:B0a rO20 3=some (.call {callee:=.builtin .append,args:=#[.tmp 73,.tmp 75],argTypes:=#[96,96]},some 76,true):=by kernel_rfl
theorem rg4:B0a rO20 4=some (.assign (.tmp 76),some 5,true):=by kernel_rfl
theorem rgn:List.range rO20.size=[0,1,2,3,4]:=by kernel_rfl
end
end Go.Ab
