/- A part of the proofs: lemmas, no statement of their own; no condition. -/
import Derived.Test.YtoocjipllmkjcaaGreatGAbK
import Derived.Test.YtoocjipllmkjcaaGreatGFuC0
import Derived.Test.YtoocjipllmkjcaaGreatGBsA
import Derived.Lib.Bytealg
namespace Go.Ab
open Go
def ChainR(Ex:It→Prop):List It→U→U→Prop
 | [],u,u'=>u'=u
 | it :: r,u,u'=>(∀x∈it.rd,u x.1=some x.2)∧Ex it∧ChainR Ex r (upd u it.wr) u'
def ExR(P:Program)(ops:Array Oper)(R:U→Act→World→Prop)(Q:Exit→Act→World→Prop)(it:It):Prop :=
 ∀(u:U) (a:Act) (w:World),R u a w→(∀x∈it.rd,u x.1=some x.2)→∀K:Act→World→Prop,(∀a' w',R (upd u it.wr) a' w'→K a' w')→wpOp P ops Q it.i K a w
section
variable {Ex:It→Prop}
theorem ChainR.over{wr:Wr}:∀{items:List It} {u u':U},ChainR Ex items u u'→(∀it∈items,(∀p∈wr,∀q∈it.rd,q.1≠p.1)∧(∀p∈wr,∀q∈it.wr,q.1≠p.1)) →
  ChainR Ex items (upd u wr) (upd u' wr)
 | [],u,u',h,_=>by simp only[ChainR]at h ⊢;rw[h]
 | it :: r,u,u',h,hd=>by
  obtain ⟨h1,h2,h3⟩:=h
  have hd0:=hd it (List.mem_cons_self ..)
  refine ⟨fun x hx=>?_,h2,?_⟩
  ·rw[upd_none _ _ _ fun p hp e=>hd0.1 p hp x hx e.symm]
   exact h1 x hx
  ·rw[upd_comm u wr it.wr fun p hp q hq e=>hd0.2 p hp q hq e.symm]
   exact ChainR.over h3 fun x hx=>hd x (List.mem_cons_of_mem _ hx)
theorem ChainR.append:∀{a b:List It} {u v w:U},ChainR Ex a u v→ChainR Ex b v w→ChainR Ex (a++b) u w
 | [],_,_,_,_,h,k=>by simp only[ChainR]at h;subst h;exact k
 | _ :: _,_,_,_,_,h,k=>⟨h.1,h.2.1,ChainR.append h.2.2 k⟩
theorem ChainR.split:∀{a b:List It} {u w:U},ChainR Ex (a++b) u w→∃v,ChainR Ex a u v∧ChainR Ex b v w
 | [],_,u,_,h=>⟨u,rfl,h⟩
 | _ :: _,_,_,_,h=>by
  obtain ⟨v,h1,h2⟩:=ChainR.split h.2.2
  exact ⟨v,⟨h.1,h.2.1,h1⟩,h2⟩
theorem ChainR.stays:∀{items:List It} {u u':U} {l:Loc},ChainR Ex items u u'→(∀it∈items,∀p∈it.wr,p.1≠l)→u' l=u l
 | [],u,u',l,h,_=>by simp only[ChainR]at h;rw[h]
 | it :: r,u,u',l,h,hd=>by
  rw[ChainR.stays h.2.2 fun x hx=>hd x (List.mem_cons_of_mem _ hx),upd_none _ _ _ (hd it (List.mem_cons_self ..))]
theorem ChainR.first{pre post:List It}{it:It}{u u':U}(h:ChainR Ex (pre++it :: post) u u')(hi:∀p∈pre,Indep p it):ChainR Ex (it :: (pre++post)) u u':=by
 obtain ⟨v,h1,h2,h3,h4⟩:=ChainR.split h
 refine ⟨fun x hx=>?_,h3,?_⟩
 ·rw[← ChainR.stays h1 fun p hp q hq=>(hi p hp).1 q hq x hx]
  exact h2 x hx
 ·refine ChainR.append (ChainR.over h1 fun p hp=>⟨fun q hq r hr=>(hi p hp).2.2 r hr q hq,fun q hq r hr=>(hi p hp).2.1 r hr q hq⟩) h4
end
section
variable {P:Program} {ops:Array Oper} {R:U→Act→World→Prop} {Q:Exit→Act→World→Prop}
theorem chainR_any:∀(n:Nat) (items:List It) (listed:Array Bool) (u u':U) (a:Act) (w:World),items.length=n→ChainR (ExR P ops R Q) items u u'→R u a w →
  listed.size=ops.size→(∀j,j<ops.size→(listed.getD j true=false↔∃it∈items,it.i=j))→(∀it∈items,it.i<ops.size)→(items.map (·.i)).Nodup →
  Closed ops listed→(∀(pre post:List It) (it:It) (ls:Array Bool),Closed ops ls→(pre++it :: post).Sublist items →
   it.i∈Region.ready .any ops ls→(∀p∈pre,ls.getD p.i true=false)→∀p∈pre,Indep p it) →
  (∀(ls:Array Bool) (l:List It),ls.size=ops.size→l.Sublist items→l≠[]→(∀j,j<ops.size→(ls.getD j true=false↔∃it∈l,it.i=j))→Region.ready .any ops ls≠[]) →
  (∀a' w',R u' a' w'→Q .normal a' w')→wpAny P .any ops Q n listed a w
 | 0,items,listed,u,u',a,w,hl,hc,hf,hls,hli,_,_,_,_,_,hQ=>by
  have:items=[]:=List.eq_nil_of_length_eq_zero hl
  subst this
  simp only[ChainR]at hc
  subst hc
  refine ⟨?_,hQ a w hf⟩
  cases hr:Region.ready .any ops listed with
  | nil=>rfl
  | cons x xs =>
   have hx:x∈Region.ready .any ops listed:=by rw[hr];simp
   obtain ⟨h1,o,h2,_⟩:=mem_ready.1 hx
   have hlt:x<ops.size:=(Array.getElem?_eq_some_iff.1 h2).1
   obtain ⟨it,h3,_⟩:=(hli x hlt).1 h1
   cases h3
 | n+1,items,listed,u,u',a,w,hl,hc,hf,hls,hli,hlt,hnd,hcl,hind,hne,hQ=>by
  refine ⟨fun h0=>absurd h0 (hne listed items hls (List.Sublist.refl _) (by intro e;subst e;cases hl) hli),fun j hj=>?_⟩
  obtain ⟨h1,o,h2,_⟩:=mem_ready.1 hj
  have hjlt:j<ops.size:=(Array.getElem?_eq_some_iff.1 h2).1
  obtain ⟨it,hit,rfl⟩:=(hli j hjlt).1 h1
  obtain ⟨pre,post,rfl⟩:=List.append_of_mem hit
  have hpre:∀p∈pre,listed.getD p.i true=false:=fun p hpp=>(hli p.i (hlt p (by simp[hpp]))).2 ⟨p,by simp[hpp],rfl⟩
  have hc':=ChainR.first hc (hind pre post it listed hcl (List.Sublist.refl _) hj hpre)
  obtain ⟨c1,c2,c3⟩:=hc'
  have hsub:(pre++post).Sublist (pre++it :: post):=List.Sublist.append (List.Sublist.refl _) (List.sublist_cons_self ..)
  have hsubm:∀p∈pre++post,p∈pre++it :: post:=fun p hpp=>hsub.subset hpp
  have hnotin:∀p∈pre++post,p.i≠it.i:=by
   intro p hpp e
   simp only[List.map_append,List.map_cons]at hnd
   rw[List.nodup_append]at hnd
   rcases List.mem_append.1 hpp with h | h
   ·exact hnd.2.2 p.i (List.mem_map.2 ⟨p,h,rfl⟩) it.i (by simp) e
   ·exact (List.nodup_cons.1 hnd.2.1).1 (e ▸ List.mem_map.2 ⟨p,h,rfl⟩)
  have hset:∀k,k<ops.size→((listed.setIfInBounds it.i true).getD k true=false↔∃x∈pre++post,x.i=k):=by
   intro k hk
   by_cases e:k=it.i
   ·subst e
    have:(listed.setIfInBounds it.i true).getD it.i true=true:=by simp[hls,hjlt]
    rw[this]
    constructor
    ·intro h;cases h
    ·rintro ⟨x,hx,e⟩;exact absurd e (hnotin x hx)
   ·rw[getD_set_ne true (Ne.symm e),hli k hk]
    constructor
    ·rintro ⟨x,hx,rfl⟩
     refine ⟨x,?_,rfl⟩
     simp only[List.mem_append,List.mem_cons]at hx ⊢
     rcases hx with h | rfl | h
     ·exact .inl h
     ·exact absurd rfl e
     ·exact .inr h
    ·rintro ⟨x,hx,rfl⟩;exact ⟨x,hsubm x hx,rfl⟩
  refine c2 u a w hf c1 _ fun a' w' hf'=>?_
  refine chainR_any n (pre++post) (listed.setIfInBounds it.i true) _ u' a' w' ?_ c3 hf' (by simpa using hls) hset (fun x hx=>hlt x (hsubm x hx))
   (hnd.sublist (hsub.map _)) (hcl.set hj) (fun pre' post' it' ls h0 h4=>hind pre' post' it' ls h0 (h4.trans hsub))
   (fun ls l h0 h1=>hne ls l h0 (h1.trans hsub)) hQ
  simp only[List.length_append,List.length_cons]at hl ⊢;omega
theorem wpAny_of_chainR{items:List It}(hlen:items.length=ops.size)(hix:∀(k:Nat) (it:It),items[k]?=some it→it.i=k)(hok:anyOk ops.toList (items.map It.foot)=true){u u':U}{a:Act}{w:World}
  (hc:ChainR (ExR P ops R Q) items u u') (hf:R u a w)
  (hQ:∀a' w',R u' a' w'→Q .normal a' w'):wpAny P .any ops Q ops.size (Array.replicate ops.size false) a w:=by
 simp only[anyOk,Bool.and_eq_true]at hok
 obtain ⟨hed,hchk⟩:=hok
 have hB:BefOk ops.toList (befs ops.toList []):=by
  have :=befs_ok ops.toList [] [] ⟨rfl,fun j o m h=>by simp at h⟩
  simpa using this
 have hspec:=(chk_spec _ _ 0 [] hchk).2
 have hinc:items.Pairwise fun a b=>a.i<b.i:=by
  rw[List.pairwise_iff_getElem]
  intro p q hp1 hq1 hpq
  rw[hix p _ (List.getElem?_eq_getElem hp1),hix q _ (List.getElem?_eq_getElem hq1)]
  exact hpq
 have hmem:∀it∈items,items[it.i]?=some it∧it.i<ops.size:=by
  intro it hit
  obtain ⟨k,hk,e⟩:=List.getElem_of_mem hit
  have h1:items[k]?=some it:=by rw[List.getElem?_eq_getElem hk,e]
  have :=hix k it h1
  rw[this]
  exact ⟨h1,by omega⟩
 refine chainR_any ops.size items (Array.replicate ops.size false) u u' a w hlen hc hf (by simp) (fun j hj=>?_) (fun it hit=>(hmem it hit).2) ?_ ?_ ?_ ?_ hQ
 ·have h1:(Array.replicate ops.size false).getD j true=false:=by simp[hj]
  refine ⟨fun _=>⟨items[j],List.getElem_mem _,hix j _ (List.getElem?_eq_getElem (by omega))⟩,fun _=>h1⟩
 ·rw[List.Nodup,List.pairwise_map]
  exact hinc.imp fun h=>Nat.ne_of_lt h
 ·intro j o _ h
  by_cases hj:j<ops.size
  ·simp[hj]at h
  ·simp[hj]at h
 ·intro pre post it ls hcl hsub hready hpre p hpp
  have hit:it∈items:=hsub.subset (by simp)
  have hpit:p∈items:=hsub.subset (by simp[hpp])
  have hlt:p.i<it.i:=by
   have :=hinc.sublist hsub
   rw[List.pairwise_append]at this
   exact this.2.2 p hpp it (by simp)
  obtain ⟨h1,o,h2,h3⟩:=mem_ready.1 hready
  obtain ⟨hi1,hi2⟩:=hmem it hit
  obtain ⟨hp1,hp2⟩:=hmem p hpit
  have hm:it.i<(befs ops.toList []).length:=by rw[hB.1];simpa using hi2
  rcases hspec p.i it.i p.foot it.foot (befs ops.toList [])[it.i] hlt (by simp[hp1]) (by simp[hi1]) (List.getElem?_eq_getElem hm) with h | h
  ·exfalso
   rw[Nat.zero_add]at h
   obtain ⟨e,h4,h5⟩:=hB.2 it.i o _ (by simpa using h2) (List.getElem?_eq_getElem hm) p.i h
   obtain ⟨ed,h6,h7,h8⟩:=mem_binding.1 h4
   have hl:=h3 ed h6 h7
   rw[h8]at hl
   have hpl:ls.getD p.i false=true:=by
    rcases h5 with h5 | ⟨m',h9,h10⟩
    ·rw[h5];exact hl
    ·exact listed_bef hcl hed hB (e+1) e (by omega) hl m' p.i h9 h10
   have hpf:=hpre p hpp
   rcases Nat.lt_or_ge p.i ls.size with hx | hx
   ·simp[hx]at hpl hpf;rw[hpl]at hpf;cases hpf
   ·simp[Array.getElem?_eq_none hx]at hpl
  ·exact indepF_spec h
 ·intro ls l hsz hsub hne hiff hnil
  cases l with
  | nil=>exact hne rfl
  | cons it r =>
   have hit:it∈items:=hsub.subset (by simp)
   obtain ⟨hi1,hi2⟩:=hmem it hit
   have hinc':=hinc.sublist hsub
   rw[List.pairwise_cons]at hinc'
   have:it.i∈Region.ready .any ops ls:=by
    refine mem_ready.2 ⟨(hiff it.i hi2).2 ⟨it,by simp,rfl⟩,ops[it.i],Array.getElem?_eq_getElem hi2,fun e he hb=>?_⟩
    have hlt:=edgesOk_spec _ 0 hed it.i ops[it.i] (by simp[Array.getElem?_eq_getElem hi2]) e.on (mem_binding.2 ⟨e,he,hb,rfl⟩)
    rw[Nat.zero_add]at hlt
    have hlt2:e.on<ls.size:=by omega
    cases hv:ls.getD e.on true with
    | false =>
     obtain ⟨x,hx,hxe⟩:=(hiff e.on (by omega)).1 hv
     simp only[List.mem_cons]at hx
     rcases hx with rfl | hx
     ·omega
     ·have :=hinc'.1 x hx;omega
    | true=>simp[hlt2]at hv ⊢;exact hv
   rw[hnil]at this
   cases this
end
end Go.Ab
namespace Go.Ab
open Go
structure Sp where
 i:Nat
 d:Nat
 on:Bool
 reads:List (Nat×Value)
 val:Value
 tok:Option (Nat×Nat)
def Sp.tokR(s:Sp):Wr:=match s.tok with | none=>[] | some (n,_)=>[(.blk 0,.row n [])]
def Sp.tokW(s:Sp):Wr:=match s.tok with | none=>[] | some (n,m)=>match Nat.beq n m with | true=>[] | false=>[(.blk 0,.row m [])]
def Sp.it(s:Sp):It:=⟨s.i,s.reads.map (fun p=>(.tmp p.1,.av (.val p.2)))++s.tokR,(.tmp s.d,.av (.val s.val)) :: s.tokW,0,0⟩
def Reads(s:Sp)(a:Act):Prop:=∀p∈s.reads,a.tmps[p.1]?=some p.2
structure SpOk(P:Program)(ops:Array Oper)(W:Nat→World)(N:Nat)(s:Sp):Prop where
 lt:s.d<N
 op:∃o,ops[s.i]?=some o∧o.dst=some s.d∧(∀a:Act,Reads s a→Region.wanted o (yielded ops a.tmps)=s.on) ∧
  (s.on=false→s.val=undef∧s.tok=none) ∧
  (s.on=true→match s.tok with
   | none=>∀(a:Act) (w:World),Reads s a→(execOp a.eval o).run P w=.ok (.value s.val) w
   | some (n,m)=>∀a:Act,Reads s a→(execOp a.eval o).run P (W n)=.ok (.value s.val) (W m))
def TokR(W:Nat→World)(N:Nat)(u:U)(a:Act)(w:World):Prop :=
 a.defers=[]∧a.tmps.size=N∧(∀t v,u (.tmp t)=some (.av (.val v))→a.tmps[t]?=some v)∧∃n,u (.blk 0)=some (.row n [])∧w=W n
theorem sp_ex{P:Program}{ops:Array Oper}{W:Nat→World}{N:Nat}{Q:Exit→Act→World→Prop}{s:Sp}(h:SpOk P ops W N s):ExR P ops (TokR W N) Q s.it:=by
 intro u a w hR hrd K hK
 obtain ⟨hlt,o,ho,hdst,hwant,hoff,hon⟩:=h
 obtain ⟨r1,r2,r3,n0,r4,rfl⟩:=hR
 have hreads:Reads s a:=by
  intro p hp
  refine r3 p.1 p.2 (hrd (.tmp p.1,.av (.val p.2)) ?_)
  unfold Sp.it
  simp only[List.mem_append,List.mem_map]
  exact .inl ⟨p,hp,rfl⟩
 have put:∀m,(s.tok=none∧m=n0∨∃n,s.tok=some (n,m)∧n=n0)→TokR W N (upd u s.it.wr) (a.put (some s.d) s.val) (W m):=by
  intro m hm
  refine ⟨r1,by simp[Act.put,r2],fun t v ht=>?_,m,?_,rfl⟩
  ·have e:upd u s.it.wr (.tmp t)=if t=s.d then some (.av (.val s.val)) else u (.tmp t):=by
    unfold Sp.it Sp.tokW
    rcases hm with ⟨h1,_⟩ | ⟨n,h1,_⟩
    ·rw[h1]
     simp only[upd,upd1]
     by_cases e:t=s.d
     ·simp[e]
     ·simp[e]
    ·rw[h1]
     dsimp only
     split
     ·simp only[upd,upd1]
      by_cases e:t=s.d
      ·simp[e]
      ·simp[e]
     ·simp only[upd,upd1]
      by_cases e:t=s.d
      ·simp[e]
      ·simp[e]
   rw[e]at ht
   by_cases e2:t=s.d
   ·rw[if_pos e2]at ht
    cases ht
    subst e2
    simp[Act.put,r2,hlt]
   ·rw[if_neg e2]at ht
    have :=r3 t v ht
    simp[Act.put,Ne.symm e2,this]
  ·unfold Sp.it Sp.tokW
   rcases hm with ⟨h1,rfl⟩ | ⟨n,h1,rfl⟩
   ·rw[h1]
    simp only[upd,upd1]
    simp[r4]
   ·rw[h1]
    dsimp only
    split
    ·rename_i e
     have :=Nat.eq_of_beq_eq_true e
     subst this
     simp only[upd,upd1]
     simp[r4]
    ·simp only[upd,upd1]
     simp
 unfold wpOp
 show match ops[s.i]? with | none=>_ | some o=>_
 rw[ho]
 simp only
 cases hs:s.on with
 | false =>
  rw[if_neg (by rw[hwant a hreads,hs];decide),hdst]
  obtain ⟨e1,e2⟩:=hoff hs
  have :=put n0 (.inl ⟨e2,rfl⟩)
  rw[e1]at this
  exact hK _ _ this
 | true =>
  rw[if_pos (by rw[hwant a hreads,hs])]
  refine .inl ?_
  have hon:=hon hs
  unfold Oper.wp
  cases ht:s.tok with
  | none =>
   rw[ht]at hon
   rw[hon a _ hreads,Oper.upon_value,hdst]
   exact hK _ _ (put n0 (.inl ⟨ht,rfl⟩))
  | some p =>
   obtain ⟨n,m⟩:=p
   rw[ht]at hon
   have hn:n=n0:=by
    have :=hrd (.blk 0,.row n []) (by unfold Sp.it Sp.tokR;rw[ht];simp)
    simp only at this
    rw[r4]at this
    cases this
    rfl
   subst hn
   rw[hon a hreads,Oper.upon_value,hdst]
   exact hK _ _ (put m (.inr ⟨n,ht,rfl⟩))
def ChOk:List Sp→(Nat→Option Value)→Nat→Nat→Prop
 | [],_,n,e=>n=e
 | s :: r,f,n,e=>(∀p∈s.reads,f p.1=some p.2)∧(match s.tok with
   | none=>ChOk r (fun t=>if t=s.d then some s.val else f t) n e
   | some (m,m')=>m=n∧ChOk r (fun t=>if t=s.d then some s.val else f t) m' e)
def uOf(f:Nat→Option Value)(n:Nat):U:=fun
 | .tmp t=>(f t).map fun v=>.av (.val v)
 | .blk 0=>some (.row n [])
 | .blk _=>none
theorem upd_uOf{s:Sp}{f:Nat→Option Value}{n m:Nat}(h:s.tok=none∧m=n∨∃k,s.tok=some (k,m)∧k=n):upd (uOf f n) s.it.wr=uOf (fun t=>if t=s.d then some s.val else f t) m:=by
 funext l
 unfold Sp.it Sp.tokW
 rcases h with ⟨h1,rfl⟩ | ⟨k,h1,rfl⟩
 ·rw[h1]
  simp only[upd,upd1]
  cases l with
  | tmp t=>by_cases e:t=s.d<;>simp[uOf,e]
  | blk b=>cases b<;>simp[uOf]
 ·rw[h1]
  dsimp only
  split
  ·rename_i e
   have :=Nat.eq_of_beq_eq_true e
   subst this
   simp only[upd,upd1]
   cases l with
   | tmp t=>by_cases e:t=s.d<;>simp[uOf,e]
   | blk b=>cases b<;>simp[uOf]
  ·simp only[upd,upd1]
   cases l with
   | tmp t=>by_cases e:t=s.d<;>simp[uOf,e]
   | blk b=>cases b<;>simp[uOf]
theorem chain_of{P:Program}{ops:Array Oper}{W:Nat→World}{N:Nat}{Q:Exit→Act→World→Prop}:∀(sps:List Sp) (f:Nat→Option Value) (n e:Nat),(∀s∈sps,SpOk P ops W N s)→ChOk sps f n e →
  ChainR (ExR P ops (TokR W N) Q) (sps.map Sp.it) (uOf f n) (uOf (sps.foldl (fun f s=>fun t=>if t=s.d then some s.val else f t) f) e)
 | [],f,n,e,_,h=>by
  simp only[ChOk]at h
  subst h
  rfl
 | s :: r,f,n,e,hok,h=>by
  obtain ⟨h1,h2⟩:=h
  have hs:=sp_ex (Q:=Q) (hok s (List.mem_cons_self ..))
  have hread:(∀p∈s.tokR,uOf f n p.1=some p.2)→∀x∈s.it.rd,uOf f n x.1=some x.2:=by
   intro htok x hx
   unfold Sp.it at hx
   simp only[List.mem_append,List.mem_map]at hx
   rcases hx with ⟨p,hp,rfl⟩ | hx
   ·simp[uOf,h1 p hp]
   ·exact htok x hx
  refine ⟨hread fun p hp=>?_,hs,?_⟩
  ·unfold Sp.tokR at hp
   cases ht:s.tok with
   | none=>rw[ht]at hp;cases hp
   | some q =>
    obtain ⟨a,b⟩:=q
    rw[ht]at hp h2
    simp only[List.mem_singleton]at hp
    subst hp
    rw[h2.1]
    rfl
  ·simp only[List.foldl_cons]
   cases ht:s.tok with
   | none =>
    rw[ht]at h2
    rw[upd_uOf (m:=n) (.inl ⟨ht,rfl⟩)]
    exact chain_of r _ n e (fun x hx=>hok x (List.mem_cons_of_mem _ hx)) h2
   | some q =>
    obtain ⟨a,b⟩:=q
    rw[ht]at h2
    rw[upd_uOf (m:=b) (.inr ⟨a,ht,h2.1⟩)]
    exact chain_of r _ b e (fun x hx=>hok x (List.mem_cons_of_mem _ hx)) h2.2
theorem foldl_put:∀(sps:List Sp) (a:Act) (N:Nat),a.tmps.size=N→(∀s∈sps,s.d<N) →
  (sps.foldl (fun a s=>a.put (some s.d) s.val) a).tmps.size=N∧(sps.foldl (fun a s=>a.put (some s.d) s.val) a).defers=a.defers ∧
  ∀t,(sps.foldl (fun a s=>a.put (some s.d) s.val) a).tmps[t]?=(sps.foldl (fun (f:Nat→Option Value) s=>fun t=>if t=s.d then some s.val else f t) (fun t=>a.tmps[t]?)) t
 | [],a,N,h,_=>⟨h,rfl,fun _=>rfl⟩
 | s :: r,a,N,h,hd=>by
  obtain ⟨h1,h2,h3⟩:=foldl_put r (a.put (some s.d) s.val) N (by simp[Act.put,h]) fun x hx=>hd x (List.mem_cons_of_mem _ hx)
  refine ⟨h1,h2,fun t=>?_⟩
  rw[List.foldl_cons,List.foldl_cons,h3 t]
  have e:(fun t=>(a.put (some s.d) s.val).tmps[t]?)=fun t=>if t=s.d then some s.val else a.tmps[t]?:=by
   funext t
   have hlt:=hd s (List.mem_cons_self ..)
   by_cases e:t=s.d
   ·subst e;simp[Act.put,h,hlt]
   ·simp[Act.put,Ne.symm e,e]
  rw[e]
theorem draw_vals{P:Program}{ops:Array Oper}{W:Nat→World}{N id e:Nat}{Q:Exit→Act→World→Prop}{a:Act}{w:World}{sps:List Sp}(hm:P.follows .mixedOrders=true)(hlen:sps.length=ops.size)(hix:∀(k:Nat) (s:Sp),sps[k]?=some s→s.i=k)
  (hok:anyOk ops.toList (sps.map fun s=>s.it.foot)=true) (hsp:∀s∈sps,SpOk P ops W N s) (hd:a.defers=[]) (hs:a.tmps.size=N) (hW:W 0={w with drawn:=w.drawn+1}) (hch:ChOk sps (fun t=>a.tmps[t]?) 0 e)
  (hQ:Q .normal (sps.foldl (fun a s=>a.put (some s.d) s.val) a) (W e)):(Code.region id ops true).wp P Q a w:=by
 refine wp_region_any hm ?_
 have hc:=chain_of (Q:=Q) sps _ 0 e hsp hch
 refine wpAny_of_chainR (R:=TokR W N) (items:=sps.map Sp.it) (by simpa using hlen) (fun k it hk=>?_) (by simpa[List.map_map,Function.comp_def]using hok) hc ?_ ?_
 ·rw[List.getElem?_map]at hk
  cases hks:sps[k]? with
  | none=>rw[hks]at hk;cases hk
  | some s =>
   rw[hks]at hk
   cases hk
   exact hix k s hks
 ·refine ⟨hd,hs,fun t v ht=>?_,0,rfl,hW.symm⟩
  have ht:(a.tmps[t]?).map (fun v=>Con.av (.val v))=some (.av (.val v)):=ht
  cases h:a.tmps[t]? with
  | none=>rw[h]at ht;cases ht
  | some x =>
   rw[h]at ht
   simp only[Option.map_some,Option.some.injEq,Con.av.injEq,AV.val.injEq]at ht
   rw[ht]
 ·intro a' w' hR
  obtain ⟨h1,h2,h3,n,h4,rfl⟩:=hR
  obtain ⟨f1,f2,f3⟩:=foldl_put sps a N hs fun s hs=>(hsp s hs).lt
  have hn:n=e:=by
   simp only[uOf,Option.some.injEq,Con.row.injEq]at h4
   exact h4.1.symm
  have ha:a'=sps.foldl (fun a s=>a.put (some s.d) s.val) a:=by
   have ht:a'.tmps=(sps.foldl (fun a s=>a.put (some s.d) s.val) a).tmps:=by
    apply Array.ext
    ·rw[h2,f1]
    ·intro i hi1 hi2
     have hx:=f3 i
     rw[Array.getElem?_eq_getElem hi2]at hx
     have :=h3 i _ (show (List.foldl (fun (f:Nat→Option Value) (s:Sp)=>fun t=>if t=s.d then some s.val else f t) (fun t=>a.tmps[t]?) sps i).map (fun v=>Con.av (.val v))=_ by rw[← hx];rfl)
     rw[Array.getElem?_eq_getElem hi1]at this
     exact Option.some.inj this
   have hdf:a'.defers=(sps.foldl (fun a s=>a.put (some s.d) s.val) a).defers:=by rw[h1,f2,hd]
   cases a'
   cases hb:sps.foldl (fun a s=>a.put (some s.d) s.val) a
   rw[hb]at ht hdf
   simp only at ht hdf
   rw[ht,hdf]
  rw[ha,hn]
  exact hQ
end Go.Ab
namespace Go.Ab
open Go Go.Proofs
noncomputable def sC:Code:=Tryz.f162.body.getD .skip
noncomputable def sc0:Code:=seqL sC
noncomputable def sc1:Code:=seqL (seqR sC)
noncomputable def sc2:Code:=seqL (seqR (seqR sC))
noncomputable def sB:Code:=inB (inB (inB (seqR (seqR (seqR sC)))))
noncomputable def sc3:Code:=seqL sB
noncomputable def sc4:Code:=seqL (seqR sB)
noncomputable def sc6:Code:=seqL (seqR (seqR sB))
noncomputable def sT7:Code:=seqR (seqR (seqR sB))
noncomputable def sc7:Code:=seqL sT7
noncomputable def sc9:Code:=seqL (seqR sT7)
noncomputable def sc10:Code:=seqL (seqR (seqR sT7))
noncomputable def sc12:Code:=seqL (seqR (seqR (seqR sT7)))
noncomputable def sX:Code:=seqR (seqR (seqR (seqR sT7)))
noncomputable def sc13:Code:=seqL sX
noncomputable def sO14:Array Oper:=regO (ifT (seqR sX))
noncomputable def sc15:Code:=ifE (seqR sX)
theorem sC_is:Tryz.f162.body=some (.seq sc0 (.seq sc1 (.seq sc2 (.block 0 (.loop (.block 1 sB)))))):=by kernel_rfl
theorem sB_is:sB=.seq sc3 (.seq sc4 (.seq sc6 (.seq sc7 (.seq sc9 (.seq sc10 (.seq sc12 (.seq sc13 (.cond (.tmp 57) (.region 14 sO14 true) sc15)))))))):=by kernel_rfl
def sS(s:ByteArray)(a:Option Addr)(n c:Nat)(o:Int)(l:List (Nat×Value)):St:=mkSt 69 ([0,5,6]++l.map (·.1)) ([.string s,.slice a n c,.int .i64 o]++l.map (·.2)) [] [] [] 4096 frH frT
abbrev ScG:=ByteArray×N8×Unit→Int
abbrev OpG:=ByteArray×Unit→Two Fr Bool
def scGam(ix:ScG)(po:ByteArray×Unit→Bool)(op:OpG):Gam:=[(207,S0w (fun _=>true) ix),(208,S0w po op)]
section
variable (ix:ScG) (po:ByteArray×Unit→Bool) (op:OpG) (s:ByteArray) (a:Option Addr) (n c:Nat) (o i:Int)
theorem sr0:frRun (scGam ix po op) 69 sc0 ⟨[Value.string s].map .val++List.replicate (69-[Value.string s].length) (.val undef),[],4096,frH,frT,[]⟩ [] [0]=some (.normal,mkSt 69 [0] [.string s] [] [] [] 4096 frH frT):=by kernel_rfl
theorem sr1:frRun (scGam ix po op) 69 sc1 (mkSt 69 [0] [.string s] [] [] [] 4096 frH frT) [] [0,5]=some (.normal,mkSt 69 [0,5] [.string s,.slice none 0 0] [] [] [] 4096 frH frT):=by kernel_rfl
theorem sr2:frRun (scGam ix po op) 69 sc2 (mkSt 69 [0,5] [.string s,.slice none 0 0] [] [] [] 4096 frH frT) [] [0,5,6]=some (.normal,sS s none 0 0 0 []):=by kernel_rfl
theorem sr3:frRun (scGam ix po op) 69 sc3 (sS s a n c o []) [] [0,5,6,7]=some (.normal,sS s a n c o [(7,.int .i64 (ix (s,⟨165⟩,())))]):=by kernel_rfl
theorem sr4:frRun (scGam ix po op) 69 sc4 (sS s a n c o [(7,.int .i64 i)]) [] [0,2,3,4,5,6,7]=bif decide (i<0) then some (.ret,mkSt 69 [0,5,6,7,2,3,4] [.string s,.slice a n c,.int .i64 o,.int .i64 i,.slice a n c,.string ⟨#[]⟩,.int .i64 (IntKind.i64.wrap (o+s.size))] [] [] [] 4096 frH frT) else some (.normal,{sS s a n c o [(7,.int .i64 i)]with tmps:=(sS s a n c o [(7,.int .i64 i)]).tmps}):=by kernel_rfl
theorem sr6:frRun (scGam ix po op) 69 sc6 (sS s a n c o [(7,.int .i64 i)]) [] [0,5,6]=bif decide (0≤i∧i≤(s.size:Int)∧(s.size:Int)≤(s.size:Int)) then some (.normal,sS (s.extract i.toNat ((s.size:Nat):Int).toNat) a n c (IntKind.i64.wrap (o+i)) []) else none:=by kernel_rfl
theorem sr7:frRun (scGam ix po op) 69 sc7 (sS s a n c o []) [] [0,2,3,4,5,6]=bif decide ((s.size:Int)<3) then some (.ret,mkSt 69 [0,5,6,2,3,4] [.string s,.slice a n c,.int .i64 o,.slice a n c,.string s,.int .i64 o] [] [] [] 4096 frH frT) else some (.normal,{sS s a n c o []with tmps:=(sS s a n c o []).tmps}):=by kernel_rfl
theorem sr9:frRun (scGam ix po op) 69 sc9 (sS s a n c o []) [] [0,5,6,8]=bif decide (0≤(2:Int)∧2<(s.size:Int)) then some (.normal,sS s a n c o [(8,.int .i64 (IntKind.i64.wrap (IntKind.i64.wrap (byteI s 2)+5)))]) else none:=by kernel_rfl
def sRet8(m:Int):Option (Ex×St):=some (.ret,mkSt 69 [0,5,6,8,2,3,4] [.string s,.slice a n c,.int .i64 o,.int .i64 m,.slice a n c,.string s,.int .i64 o] [] [] [] 4096 frH frT)
theorem sr10(m:Int):frRun (scGam ix po op) 69 sc10 (sS s a n c o [(8,.int .i64 m)]) [] [0,2,3,4,5,6,8] =
  bif decide (m>(s.size:Int)) then bif (bif true then decide (m≤69) else false) then sRet8 s a n c o m else some (.normal,{sS s a n c o [(8,.int .i64 m)]with tmps:=(sS s a n c o [(8,.int .i64 m)]).tmps}) else some (.normal,{sS s a n c o [(8,.int .i64 m)]with tmps:=(sS s a n c o [(8,.int .i64 m)]).tmps}):=by kernel_rfl
def sX'(s:ByteArray)(a:Option Addr)(n c:Nat)(o m:Int)(x:Two Fr Bool):St:=mkSt 69 [0,5,6,8,10] [.string s,.slice a n c,.int .i64 o,.int .i64 m,.bool x.b] [(9,4096,0)] [(4096,74,2)] [.int .i64 x.a.kind,.string x.a.data] fr2 frH frT
def sY(s:ByteArray)(a:Option Addr)(n c:Nat)(o m:Int)(x:Two Fr Bool):St:=mkSt 69 [0,5,6,8,10,57] [.string s,.slice a n c,.int .i64 o,.int .i64 m,.bool x.b,.bool x.b] [(9,4096,0)] [(4096,74,2)] [.int .i64 x.a.kind,.string x.a.data] fr2 frH frT
def minI(a b:Int):Int:=if b<a then b else a
theorem sr12(m:Int):frRun (scGam ix po op) 69 sc12 (sS s a n c o [(8,.int .i64 m)]) [4096] [0,5,6,8,9,10] =
  let q:=minI m s.size
  let cut:=s.extract ((0:Nat):Int).toNat q.toNat
  bif decide (0≤((0:Nat):Int)∧((0:Nat):Int)≤q∧q≤(s.size:Int)) then bif po (cut,()) then some (.normal,sX' s a n c o m (op (cut,()))) else none else none:=by kernel_rfl
theorem sr13(m:Int)(x:Two Fr Bool):frRun (scGam ix po op) 69 sc13 (sX' s a n c o m x) [4096] [0,5,6,8,9,10,57]=some (.normal,sY s a n c o m x):=by kernel_rfl
theorem sr15(m:Int)(x:Two Fr Bool):frRun (scGam ix po op) 69 sc15 (sY s a n c o m x) [] [0,5,6]=bif decide (0≤(1:Int)∧1≤(s.size:Int)∧(s.size:Int)≤(s.size:Int)) then some (.normal,{sS (s.extract (Int.toNat 1) ((s.size:Nat):Int).toNat) a n c (IntKind.i64.wrap (o+1)) []with lo:=fr2}) else none:=by kernel_rfl
end
end Go.Ab
namespace Go.Ab
open Go
abbrev Scd:=List Fr×List UInt8×Nat
def skipS(x:Scd):Scd:=(x.1,x.2.1,x.2.2+1)
def consS(f:Fr)(x:Scd):Scd:=(f :: x.1,x.2)
def stepS(rec:List UInt8→Scd)(l:List UInt8):Scd :=
 match l with
 | []=>([],[],0)
 | b :: r =>
  if b=165 then
   if (b :: r).length<3 then ([],b :: r,0)
   else if 64<((b :: r).getD 2 0).toNat then skipS (rec r)
   else if (b :: r).length<((b :: r).getD 2 0).toNat+5 then ([],b :: r,0)
   else if (openV (bsL ((b :: r).take (((b :: r).getD 2 0).toNat+5)))).b then consS (openV (bsL ((b :: r).take (((b :: r).getD 2 0).toNat+5)))).a (rec ((b :: r).drop (((b :: r).getD 2 0).toNat+5)))
   else skipS (rec r)
  else skipS (rec r)
def scanF:Nat→List UInt8→Scd
 | 0=>fun _=>([],[],0)
 | n+1=>stepS (scanF n)
theorem step_congr{f g:List UInt8→Scd}{l:List UInt8}(h:∀m,m.length<l.length→f m=g m):stepS f l=stepS g l:=by
 unfold stepS
 cases l with
 | nil=>rfl
 | cons b r =>
  have hr:=h r (by simp)
  have hd:f ((b :: r).drop (((b :: r).getD 2 0).toNat+5))=g ((b :: r).drop (((b :: r).getD 2 0).toNat+5)):=h _ (by simp;omega)
  simp only[hr,hd]
theorem scan_fuel:∀(n:Nat) (l:List UInt8),l.length≤n→scanF n l=scanF l.length l:=by
 intro n
 induction n using Nat.strongRecOn with
 | _ n ih =>
  intro l hl
  cases l with
  | nil=>cases n<;>rfl
  | cons b r =>
   cases n with
   | zero=>simp at hl
   | succ n =>
    show stepS (scanF n) (b :: r)=stepS (scanF r.length) (b :: r)
    refine step_congr fun m hm=>?_
    simp only[List.length_cons]at hm hl
    rw[ih n (by omega) m (by omega)]
    rcases Nat.lt_or_ge r.length (n+1) with h | h
    ·exact (ih r.length h m (by omega)).symm
    ·have:r.length=n:=by omega
     rw[this]
     exact (ih n (by omega) m (by omega)).symm
def scanV(l:List UInt8):Scd:=scanF l.length l
theorem scan_eq(l:List UInt8):scanV l=stepS scanV l:=by
 cases l with
 | nil=>rfl
 | cons b r =>
  show stepS (scanF r.length) (b :: r)=_
  refine step_congr fun m hm=>?_
  simp only[List.length_cons]at hm
  exact scan_fuel r.length m (by omega)
theorem scan_nil:scanV []=([],[],0):=rfl
theorem scan_other{b:UInt8}{r:List UInt8}(h:b≠165):scanV (b :: r)=skipS (scanV r):=by
 rw[scan_eq]
 show (if b=165 then _ else _)=_
 rw[if_neg h]
def addO(o:Nat)(x:Scd):Scd:=(x.1,x.2.1,x.2.2+o)
theorem skip_addO(o:Nat)(x:Scd):skipS (addO o x)=addO (o+1) x:=by unfold addO skipS;simp only[Prod.mk.injEq,true_and];omega
theorem scan_skip:∀(i:Nat) (l:List UInt8),i≤l.length→(∀j,j<i→l.getD j 0≠165)→scanV l=addO i (scanV (l.drop i))
 | 0,l,_,_=>by simp[addO]
 | i+1,[],h,_=>by simp at h
 | i+1,b :: r,h,hn=>by
  have h0:b≠165:=hn 0 (by omega)
  rw[scan_other h0,scan_skip i r (by simpa using h) fun j hj=>by simpa using hn (j+1) (by omega),List.drop_succ_cons,skip_addO]
theorem scan_none{l:List UInt8}(h:∀j,j<l.length→l.getD j 0≠165):scanV l=([],[],l.length):=by
 rw[scan_skip l.length l (Nat.le_refl _) h,List.drop_length,scan_nil]
 simp[addO]
theorem open_third{l:List UInt8}(h:(openV (bsL l)).b=true):(l.getD 2 0).toNat≤64∧5≤l.length:=by
 unfold openV at h
 dsimp only at h
 rw[data_bsL]at h
 split at h
 ·rename_i g
  obtain ⟨g1,g2,g3⟩:=g
  refine ⟨?_,g1⟩
  rw[g3]
  unfold wrapL bodyL
  show (UInt8.ofNat _).toNat≤64
  have :=ofNat8 (x:=((l.drop 3).take (l.length-5)).length) (by omega)
  omega
 ·cases h
theorem index_facts:∀(l:List UInt8) (c:UInt8),(Lib.indexByte l c=-1∧∀j,j<l.length→l.getD j 0≠c)∨∃i:Nat,Lib.indexByte l c=i∧i<l.length∧l.getD i 0=c∧∀j,j<i→l.getD j 0≠c
 | [],c=>.inl ⟨rfl,fun j h=>by simp at h⟩
 | b :: l,c=>by
  unfold Lib.indexByte
  by_cases hb:b=c
  ·exact .inr ⟨0,by simp[hb],by simp,hb,fun j h=>by omega⟩
  ·have e:(b==c)=false:=beq_eq_false_iff_ne.2 hb
   rw[e]
   simp only[Bool.false_eq_true,if_false]
   rcases index_facts l c with ⟨h1,h2⟩ | ⟨i,h1,h2,h3,h4⟩
   ·left
    rw[h1]
    refine ⟨by simp,fun j hj=>?_⟩
    cases j with
    | zero=>exact hb
    | succ j=>simpa using h2 j (by simpa using hj)
   ·right
    rw[h1]
    have:((i:Int)==-1)=false:=beq_eq_false_iff_ne.2 (by omega)
    rw[this]
    refine ⟨i+1,by simp,by simpa using h2,by simpa using h3,fun j hj=>?_⟩
    cases j with
    | zero=>exact hb
    | succ j=>simpa using h4 j (by omega)
theorem scan_mark{l:List UInt8}(h0:l.getD 0 0=165)(hl:0<l.length) :
  scanV l=if l.length<3 then ([],l,0) else if (l.getD 2 0).toNat+5>l.length∧(l.getD 2 0).toNat+5≤69 then ([],l,0) else
   if (openV (bsL (l.take (min ((l.getD 2 0).toNat+5) l.length)))).b then consS (openV (bsL (l.take (min ((l.getD 2 0).toNat+5) l.length)))).a (scanV (l.drop ((l.getD 2 0).toNat+5))) else skipS (scanV (l.drop 1)):=by
 cases l with
 | nil=>simp at hl
 | cons b r =>
  have hb:b=165:=h0
  rw[scan_eq]
  show (if b=165 then _ else _)=_
  rw[if_pos hb,List.drop_one,List.tail_cons]
  by_cases h3:(b :: r).length<3
  ·rw[if_pos h3,if_pos h3]
  rw[if_neg h3,if_neg h3]
  generalize hm:((b :: r).getD 2 0).toNat=m
  by_cases h64:64<m
  ·rw[if_pos h64,if_neg (fun g=>by omega)]
   have hno:¬ (openV (bsL ((b :: r).take (min (m+5) (b :: r).length)))).b=true:=by
    intro g
    have :=(open_third g).1
    have e:((b :: r).take (min (m+5) (b :: r).length)).getD 2 0=(b :: r).getD 2 0:=by
     rw[List.getD_eq_getElem?_getD,List.getD_eq_getElem?_getD,List.getElem?_take]
     rw[if_pos (by simp only[List.length_cons]at h3 ⊢;omega)]
    rw[e,hm]at this
    omega
   rw[if_neg hno]
  ·rw[if_neg h64]
   by_cases h5:(b :: r).length<m+5
   ·rw[if_pos h5,if_pos ⟨h5,by omega⟩]
   ·have e:min (m+5) (b :: r).length=m+5:=by omega
    rw[if_neg h5,e]
    exact (if_neg (c:=m+5>(b :: r).length∧m+5≤69) fun g=>h5 g.1).symm
end Go.Ab
namespace Go.Ab
open Go Go.Proofs
theorem Stand.get{F:Nat→Prop}{w0:World}{N:Nat}{s:St}{a:Act}{w:World}(h:Stand F w0 N s a w){t:Nat}{v:Value}(ht:s.tmps[t]?=some (.val v)):a.tmps[t]?=some v:=by
  obtain ⟨σ,h1,_⟩:=h
  obtain ⟨x,h1,h2⟩:=h1.tmp ht
  simp only[Rel]at h2
  rw[h1,h2]
theorem Stand.act{F:Nat→Prop}{w0:World}{N:Nat}{s:St}{a:Act}{w:World}(h:Stand F w0 N s a w):a.defers=[]∧a.tmps.size=N:=by
  obtain ⟨σ,⟨⟨u,hf,_⟩,_⟩,_⟩:=h
  exact ⟨hf.defers,hf.size⟩
theorem Stand.own{F:Nat→Prop}{w0:World}{N:Nat}{s:St}{a:Act}{w:World}(h:Stand F w0 N s a w){t b e:Nat}{vs:List Value}(ht:s.tmps[t]?=some (.ptr b 0))(hb:hget s.heap b=some (.row e (vs.map .val))) :
    ∃r,a.tmps[t]?=some (.pointer (some ⟨r,0,none⟩))∧w.heap[r]?=some (.cells (List.toArray vs) e (0,0)):=by
  obtain ⟨σ,h1,_⟩:=h
  obtain ⟨x,h2,h3⟩:=h1.tmp ht
  simp only[Rel]at h3
  obtain ⟨r,h4,rfl⟩:=h3
  obtain ⟨⟨u,hf,hs⟩,_⟩:=h1
  obtain ⟨r',vs',h5,h6,h7⟩:=hf.row b e _ (hs _ _ (hget_own rfl hb))
  rw[h4]at h5
  cases h5
  rw[rels_vals _ _ h7]at h6
  exact ⟨r,h2,h6⟩
theorem Stand.puts{F:Nat→Prop}{w0:World}{N:Nat}{w:World}:∀(sps:List Sp) {s:St} {a:Act},Stand F w0 N s a w→(∀x∈sps,x.d<N)→s.tmps.length=N→Stand F w0 N {s with tmps:=sps.foldl (fun l p=>l.set p.d (.val p.val)) s.tmps} (sps.foldl (fun a s=>a.put (some s.d) s.val) a) w
  | [],_,_,h,_,_=>h
  | p :: r,s,a,h,hd,hl=>by
    have h1:=h.put (hd p (List.mem_cons_self ..)) hl p.val
    have :=Stand.puts r h1 (fun x hx=>hd x (List.mem_cons_of_mem _ hx)) (by simp[hl])
    exact this
def frCells(x:Fr):List Value:=[.int .i64 x.kind,.string x.data]
def cellsF(l:List Fr):List Value:=l.flatMap frCells
def sps14(s s':ByteArray)(l v' sl p:Value)(x:Fr)(m:Int):List Sp :=
  [⟨0,58,true,[(5,l)],l,none⟩,⟨1,59,true,[(9,p)],.agg (List.toArray (frCells x)),some (0,0)⟩,⟨2,60,true,[(59,.agg (List.toArray (frCells x)))],sl,some (0,1)⟩,⟨3,61,true,[(58,l),(60,sl)],v',some (1,2)⟩,
   ⟨4,62,true,[(0,.string s)],.string s,none⟩,⟨5,63,true,[(8,.int .i64 m)],.int .i64 m,none⟩,⟨6,64,true,[(62,.string s),(63,.int .i64 m)],.string s',none⟩,⟨7,5,true,[(61,v')],v',none⟩,⟨8,0,true,[(64,.string s')],.string s',none⟩]
theorem any14(s s':ByteArray)(l v' sl p:Value)(x:Fr)(m:Int):anyOk sO14.toList ((sps14 s s' l v' sl p x m).map fun s=>s.it.foot)=true:=by kernel_rfl
theorem mixed:Tryz.prog.follows .mixedOrders=true:=by kernel_rfl
theorem len14(s s':ByteArray)(l v' sl p:Value)(x:Fr)(m:Int):(sps14 s s' l v' sl p x m).length=sO14.size:=by kernel_rfl
theorem e14_0:sigOf sO14 0=some (.move (.tmp 5),some 58,true):=by kernel_rfl
theorem e14_1:sigOf sO14 1=some (.load 74 (.tmp 9),some 59,true):=by kernel_rfl
theorem e14_2:sigOf sO14 2=some (.buildSlice 96 1 #[(0,.tmp 59)],some 60,true):=by kernel_rfl
theorem e14_3:sigOf sO14 3=some (.call {callee:=.builtin .append,args:=#[.tmp 58,.tmp 60],argTypes:=#[96,96]},some 61,true):=by kernel_rfl
theorem e14_4:sigOf sO14 4=some (.move (.tmp 0),some 62,true):=by kernel_rfl
theorem e14_5:sigOf sO14 5=some (.move (.tmp 8),some 63,true):=by kernel_rfl
theorem e14_6:sigOf sO14 6=some (.slice 9 (.tmp 62) (some (.tmp 63)) none none,some 64,true):=by kernel_rfl
theorem e14_7:sigOf sO14 7=some (.assign (.tmp 61),some 5,true):=by kernel_rfl
theorem e14_8:sigOf sO14 8=some (.assign (.tmp 64),some 0,true):=by kernel_rfl
theorem v33:Tryz.prog.underlying 96=some (.slice 74):=by kernel_rfl
theorem i26b:(Tryz.prog.info? 74).map (fun i=>(i.size,i.bytes))=some (2,24):=by kernel_rfl
theorem i26z:((Tryz.prog.info? 74).bind (·.zero))=some (.agg #[.int .i64 0,.string ⟨#[]⟩]):=by kernel_rfl
theorem cells26(x:Fr):sliceCells Tryz.prog 96 1 [(0,.agg (List.toArray (frCells x)))]=some (74,frCells x):=by kernel_rfl
theorem info26:∃ti,Tryz.prog.info? 74=some ti∧ti.size=2∧ti.bytes=24∧ti.zero=some (.agg #[.int .i64 0,.string ⟨#[]⟩]):=by
  cases hi:Tryz.prog.info? 74 with
  | none=>have :=i26b;rw[hi]at this;cases this
  | some ti =>
    have h1:=i26b
    have h2:=i26z
    rw[hi]at h1 h2
    simp only[Option.map_some,Option.some.injEq,Prod.mk.injEq,Option.bind_some]at h1 h2
    exact ⟨ti,rfl,h1.1,h1.2,h2⟩
theorem und26:(Tryz.prog.underlying 74).map isAggD=some true:=by kernel_rfl
theorem get_eval{a:Act}{t:Nat}{v:Value}(h:a.tmps[t]?=some v):a.eval (.tmp t)=v:=by simp[Act.eval,h]
theorem spOk_of{P:Program}{ops:Array Oper}{W:Nat→World}{N:Nat}{s:Sp}{op:Op}(hs:sigOf ops s.i=some (op,some s.d,true))(hd:s.d<N)(hon:s.on=true)
    (h:∀o:Oper,o.op=op→match s.tok with
      | none=>∀(a:Act) (w:World),Reads s a→(execOp a.eval o).run P w=.ok (.value s.val) w
      | some (n,m)=>∀a:Act,Reads s a→(execOp a.eval o).run P (W n)=.ok (.value s.val) (W m)):SpOk P ops W N s:=by
  obtain ⟨o,ho,hop,hdst,hg⟩:=sigOf_some hs
  exact ⟨hd,o,ho,hdst,fun a _=>by rw[hon];simp[Region.wanted,hg],(fun h'=>by rw[hon]at h';cases h'),fun _=>h o hop⟩
theorem run_rest{P:Program}{t:TypeId}{s:ByteArray}{m:Int}(hu:P.underlying t=some .string)(h0:0≤m)(h1:m≤s.size)(w:World):(Instr.sliceAt t (.string s) (some (.int .i64 m)) none none).run P w=.ok (.string (s.extract m.toNat s.size)) w:=by
  rw[run_sliceAt_string w t _ _ _ _ hu,run_slice_string_l w t s hu .i64 m h0 h1]
theorem run_loadRow{P:Program}{w:World}{t e:TypeId}{d:TypeDesc}{i:TypeInfo}{r:Nat}{cs:List Value}(hd:P.underlying t=some d)(hagg:isAggD d=true)(hi:P.info? t=some i)(hr:w.heap[r]?=some (.cells (List.toArray cs) e (0,0)))(hl:cs.length=i.size) :
    (loadVar t ⟨r,0,none⟩).run P w=.ok (.agg (List.toArray cs)) w:=by
  have hc:=run_loadCells_row (P:=P) w r 0 i.size e (0,0) cs cs hr (by rw[List.drop_zero,← hl,List.take_length]) hl
  unfold loadVar
  rw[Sem.run_bind,run_isAgg hd w,hagg]
  simp only[Result.andThen_ok,if_true,Sem.run_bind,run_sizeOf hi w,hc,Sem.run_pure]
theorem spOk14{W:Nat→World}{s:ByteArray}{l v':Value}{x:Fr}{m:Int}{r:Nat}(h0:0≤m)(hm:m≤s.size)(hrow:(W 0).heap[r]?=some (.cells (List.toArray (frCells x)) 74 (0,0)))
    (h1:W 1=(W 0).alloc (.cells (List.toArray (frCells x)) 74)) (h2:∀ty,(Builtin.append_ #[96,96] ty #[l,.slice (some ⟨(W 0).heap.size,0,none⟩) 1 1]).run Tryz.prog (W 1)=.ok v' (W 2)) :
    ∀q∈sps14 s (s.extract m.toNat s.size) l v' (.slice (some ⟨(W 0).heap.size,0,none⟩) 1 1) (.pointer (some ⟨r,0,none⟩)) x m,SpOk Tryz.prog sO14 W 69 q:=by
  obtain ⟨ti,hti,ts,tb,tz⟩:=info26
  obtain ⟨td,htd,hag⟩:∃td,Tryz.prog.underlying 74=some td∧isAggD td=true:=by
    have :=und26
    cases h:Tryz.prog.underlying 74 with
    | none=>rw[h]at this;cases this
    | some td=>rw[h]at this;exact ⟨td,rfl,by simpa using this⟩
  intro q hq
  simp only[sps14,List.mem_cons,List.not_mem_nil,or_false]at hq
  rcases hq with rfl | rfl | rfl | rfl | rfl | rfl | rfl | rfl | rfl
  · refine spOk_of e14_0 (by dsimp only;omega) rfl fun o ho a w hr=>?_
    have :=get_eval (hr (5,l) (by simp))
    simp only[execOp,ho,this,Sem.run_pure]
  · refine spOk_of e14_1 (by dsimp only;omega) rfl fun o ho a hr=>?_
    have :=get_eval (hr (9,.pointer (some ⟨r,0,none⟩)) (by simp))
    simp only[execOp,ho,Instr.loadAt,this,Instr.sureAddr,Sem.run_bind,Sem.run_pure,Result.andThen_ok,run_loadRow htd hag hti hrow (by rw[ts];rfl)]
  · refine spOk_of e14_2 (by dsimp only;omega) rfl fun o ho a hr=>?_
    have :=get_eval (hr (59,.agg (List.toArray (frCells x))) (by simp))
    have e1:(#[(0,Operand.tmp 59)].map fun (p:Nat×Operand)=>(p.1,a.eval p.2))=List.toArray [(0,Value.agg (List.toArray (frCells x)))]:=by simp[this]
    have e2:=sliceCells_run (P:=Tryz.prog) (cells26 x) (W 0)
    rw[← e1]at e2
    simp only[execOp,ho,Sem.run_bind,e2,h1]
    rfl
  · refine spOk_of e14_3 (by dsimp only;omega) rfl fun o ho a hr=>?_
    have hx:=get_eval (hr (58,l) (by simp))
    have hy:=get_eval (hr (60,.slice (some ⟨(W 0).heap.size,0,none⟩) 1 1) (by simp))
    simp only[execOp,ho,resolve,invoke,Go.builtin,Sem.run_bind,Sem.run_pure,Result.andThen_ok,hx,hy,List.map_toArray,List.map_cons,List.map_nil,h2]
  · refine spOk_of e14_4 (by dsimp only;omega) rfl fun o ho a w hr=>?_
    have :=get_eval (hr (0,.string s) (by simp))
    simp only[execOp,ho,this,Sem.run_pure]
  · refine spOk_of e14_5 (by dsimp only;omega) rfl fun o ho a w hr=>?_
    have :=get_eval (hr (8,.int .i64 m) (by simp))
    simp only[execOp,ho,this,Sem.run_pure]
  · refine spOk_of e14_6 (by dsimp only;omega) rfl fun o ho a w hr=>?_
    have hx:=get_eval (hr (62,.string s) (by simp))
    have hy:=get_eval (hr (63,.int .i64 m) (by simp))
    simp only[execOp,ho,hx,hy,Option.map_some,Option.map_none,Sem.run_bind,run_rest v9 h0 hm w,Result.andThen_ok,Sem.run_pure]
  · refine spOk_of e14_7 (by dsimp only;omega) rfl fun o ho a w hr=>?_
    have :=get_eval (hr (61,v') (by simp))
    simp only[execOp,ho,this,Sem.run_pure]
  · refine spOk_of e14_8 (by dsimp only;omega) rfl fun o ho a w hr=>?_
    have :=get_eval (hr (64,.string (s.extract m.toNat s.size)) (by simp))
    simp only[execOp,ho,this,Sem.run_pure]
theorem chOk14{f:Nat→Option Value}{s s':ByteArray}{l v' sl p:Value}{x:Fr}{m:Int}(h5:f 5=some l)(h9:f 9=some p)(h0:f 0=some (.string s))(h8:f 8=some (.int .i64 m)):ChOk (sps14 s s' l v' sl p x m) f 0 2:=by
  unfold sps14
  simp[ChOk,h5,h9,h0,h8]
end Go.Ab
namespace Go.Ab
open Go Go.Proofs
theorem wk14(s s':ByteArray)(a:Option Addr)(n c:Nat)(o m:Int)(x:Two Fr Bool)(g:Option Addr)(n' c':Nat)(sl p:Value) :
  dropSt [] (others 69 [0,5,6]) {sY s a n c o m x with tmps:=(sps14 s s' (.slice a n c) (.slice g n' c') sl p x.a m).foldl (fun l p=>l.set p.d (.val p.val)) (sY s a n c o m x).tmps}={sS s' g n' c' o []with lo:=fr2}:=by kernel_rfl
theorem cl14(s:ByteArray)(a:Option Addr)(n c:Nat)(o:Int):okClean 4096 {sS s a n c o []with lo:=fr2}=true:=by kernel_rfl
theorem ct14(s:ByteArray)(a:Option Addr)(n c:Nat)(o:Int):({({sS s a n c o []with lo:=fr2}:St) with lo:=4096,hi:=frH}:St)=sS s a n c o []:=by kernel_rfl
theorem lY(s:ByteArray)(a:Option Addr)(n c:Nat)(o m:Int)(x:Two Fr Bool):(sY s a n c o m x).tmps.length=69:=by kernel_rfl
theorem hY(s:ByteArray)(a:Option Addr)(n c:Nat)(o m:Int)(x:Two Fr Bool):hget (sY s a n c o m x).heap 4096=some (.row 74 ((frCells x.a).map .val)):=by kernel_rfl
theorem row_lt{w:World}{r:Nat}{o:Obj}(h:w.heap[r]?=some o):r<w.heap.size:=by
 rw[Array.getElem?_eq_some_iff]at h
 exact h.1
theorem scan_found{W0 wb:World}{F:Nat→Prop}{s:ByteArray}{a:Option Addr}{n c:Nat}{o m:Int}{x:Two Fr Bool}{fs:List Fr}{act:Act}{w:World}(L:Live W0 F wb)(hst:Stand F wb 69 (sY s a n c o m x) act w)
  (hown:wb.ownsRow W0.heap.size 74 2 (.slice a n c) n (cellsF fs)) (hF:∀r,(Value.slice a n c).ownBlock=some r→F r) (hn:n≤1099511627776) (h0:0≤m) (hm:m≤s.size) {Q:Exit→Act→World→Prop}
  (hQ:∀F' wb' a' c' act' w',Live W0 F' wb'→Stand F' wb' 69 (sS (s.extract m.toNat s.size) a' (n+1) c' o []) act' w'→wb'.ownsRow W0.heap.size 74 2 (.slice a' (n+1) c') (n+1) (cellsF (fs++[x.a]))→(∀r,(Value.slice a' (n+1) c').ownBlock=some r→F' r)→Q .normal act' w') :
  (Code.region 14 sO14 true).wp Tryz.prog Q act w:=by
 obtain ⟨ti,hti,ts,tb,tz⟩:=info26
 obtain ⟨r,h9,hrow⟩:=hst.own (t:=9) (b:=4096) (vs:=frCells x.a) rfl (hY ..)
 obtain ⟨hd,hs⟩:=hst.act
 have hFlt:∀k,F k→k<w.heap.size:=fun k hk=>hst.keep.lt hk
 have hownw:=owns_keep (w':=w) hown fun k hk=>(hst.keep.frame k (hF k hk)).2
 have hbase:∀k,(Value.slice a n c).ownBlock=some k→W0.heap.size≤k:=by
  intro k hk
  rcases hown.2 with ⟨h1,_⟩ | ⟨g,c1,cur,h1,h2,_⟩
  ·rw[h1]at hk;cases hk
  ·rw[h1]at hk;cases hk;exact h2
 have hLs:=L.size hst
 generalize hw0:({w with drawn:=w.drawn+1}:World)=w00
 have hh0:w00.heap=w.heap:=by rw[← hw0]
 have h0os:w00.os=w.os∧w00.tape=w.tape∧w00.output=w.output:=by rw[← hw0];exact ⟨rfl,rfl,rfl⟩
 have hown0:=owns_keep (w':=w00) hownw fun k _=>by rw[hh0]
 generalize hw1:w00.alloc (.cells (List.toArray (frCells x.a)) 74)=w1
 have g1:=alloc_grown w00 (.cells (List.toArray (frCells x.a)) 74)
 rw[hw1]at g1
 have hs1:w1.heap.size=w.heap.size+1:=by rw[← hw1,← hh0];exact Array.size_push ..
 have hnew:w1.heap[w00.heap.size]?=some (.cells (List.toArray (frCells x.a)) 74 (0,0)):=by
  rw[← hw1]
  show (w00.heap.push _)[w00.heap.size]?=_
  simp
 have hown1:=owns_keep (w':=w1) hown0 fun k hk=>g1.block k (by rw[hh0];exact hFlt k (hF k hk)) (by simp)
 obtain ⟨v',w2,hr2,own2,g2,n2⟩:=append_fresh (P:=Tryz.prog) w1 96 0 74 ti _ 2 24 v33 hti tz ts tb rfl (by omega) W0.heap.size _ n _ hown1 ⟨w00.heap.size,0,none⟩ 1 1 (frCells x.a) rfl
  (fun j u hj=>by
   rw[addr_add,Nat.zero_add]
   simp only[World.cell?,hnew]
   simpa using hj) (fun u hu=>by simp only[frCells,List.mem_cons,List.not_mem_nil,or_false]at hu;rcases hu with rfl | rfl<;>rfl) (by simp only[maxLen];omega) (by omega) (by omega)
 have hv':∃g c',v'=.slice (some ⟨g,0,none⟩) (n+1) c'∧g<w2.heap.size:=by
  rcases own2.2 with ⟨_,h1⟩ | ⟨g,c',cur,e1,_,e3,_⟩
  ·omega
  ·exact ⟨g,c',e1,row_lt e3⟩
 obtain ⟨g,c',rfl,hgl⟩:=hv'
 have hsame:∀j,j<w.heap.size→(∀k,(Value.slice a n c).ownBlock=some k→k≠j)→w2.heap[j]?=w.heap[j]?:=by
  intro j hj hne
  rw[g2.block j (by omega) fun e=>hne j e.symm rfl,g1.block j (by rw[hh0];exact hj) (by simp),hh0]
 have hgrow:w.heap.size≤w2.heap.size:=by have :=g2.size;omega
 refine draw_vals (W:=fun | 0=>w00 | 1=>w1 | _=>w2) (N:=69) (e:=2) mixed (len14 s (s.extract m.toNat s.size) (.slice a n c) (.slice (some ⟨g,0,none⟩) (n+1) c') (.slice (some ⟨w00.heap.size,0,none⟩) 1 1) (.pointer (some ⟨r,0,none⟩)) x.a m) (fun k q hk=>?_) (any14 ..)
  (spOk14 (W:=fun | 0=>w00 | 1=>w1 | _=>w2) h0 hm (by show w00.heap[r]?=_;rw[hh0];exact hrow) hw1.symm hr2) hd hs hw0.symm (chOk14 (hst.get rfl) h9 (hst.get rfl) (hst.get rfl)) ?_
 ·match k,hk with
  | 0,hk=>cases hk;rfl
  | 1,hk=>cases hk;rfl
  | 2,hk=>cases hk;rfl
  | 3,hk=>cases hk;rfl
  | 4,hk=>cases hk;rfl
  | 5,hk=>cases hk;rfl
  | 6,hk=>cases hk;rfl
  | 7,hk=>cases hk;rfl
  | 8,hk=>cases hk;rfl
  | k+9,hk=>simp[sps14]at hk
 ·have hmv:=(hst.moved (w':=w2) hgrow fun j hj hnF=>hsame j hj fun k hk e=>hnF (by rw[← e];exact hF k hk)).puts (sps14 s (s.extract m.toNat s.size) (.slice a n c) (.slice (some ⟨g,0,none⟩) (n+1) c') (.slice (some ⟨w00.heap.size,0,none⟩) 1 1) (.pointer (some ⟨r,0,none⟩)) x.a m)
   (fun q hq=>by
    simp only[sps14,List.mem_cons,List.not_mem_nil,or_false]at hq
    rcases hq with rfl | rfl | rfl | rfl | rfl | rfl | rfl | rfl | rfl<;>(dsimp only;omega)) (lY ..)
  have hwk:=hmv.weak (s':={sS (s.extract m.toNat s.size) (some ⟨g,0,none⟩) (n+1) c' o []with lo:=fr2}) (by
   rw[← wk14 s (s.extract m.toNat s.size) a n c o m x (some ⟨g,0,none⟩) (n+1) c' (.slice (some ⟨w00.heap.size,0,none⟩) 1 1) (.pointer (some ⟨r,0,none⟩))]
   exact dropSt_wk _ _ _) (Nat.le_refl _) (Nat.le_refl _)
  have hct:=hwk.cut (lo:=4096) (hi:=frH) (cl14 ..)
  rw[ct14]at hct
  refine hQ (Wide F w w2) w2 (some ⟨g,0,none⟩) c' _ w2 (L.step hst (g2.os.trans (g1.os.trans h0os.1)) (g2.tape.trans (g1.tape.trans h0os.2.1)) (g2.output.trans (g1.output.trans h0os.2.2)) hgrow fun j hj=>hsame j (by omega) fun k hk e=>by have :=hbase k hk;omega) hct ?_ fun k hk=>?_
  ·have e:cellsF (fs++[x.a])=cellsF fs++frCells x.a:=by unfold cellsF;rw[List.flatMap_append];simp
   rw[e]
   exact own2
  ·cases hk
   rcases n2 g rfl with h | h
   ·exact .inl (hF g h)
   ·have h:w1.heap.size≤g:=h
    exact .inr ⟨by show w.heap.size≤g;omega,hgl⟩
def ScanX(W0:World)(x:Scd)(v:Value)(w':World):Prop:=∃a c,v=.tuple #[.slice a x.1.length c,.string (bsL x.2.1),.int .i64 (x.2.2:Int)]∧w'.ownsRow W0.heap.size 74 2 (.slice a x.1.length c) x.1.length (cellsF x.1)
def ScanR(W0:World)(x:Scd)(act:Act)(w:World):Prop:=∃v,(results Tryz.f162 act.tmps).run Tryz.prog w=.ok v w∧act.defers=[]∧RowKit.Below W0.heap.size W0 w∧ScanX W0 x v w
theorem scan_ret{W0 wb:World}{F:Nat→Prop}{s:St}{a:Option Addr}{n c:Nat}{fs:List Fr}{l:List UInt8}{o:Nat}{act:Act}{w:World}(L:Live W0 F wb)(hst:Stand F wb 69 s act w)(hown:wb.ownsRow W0.heap.size 74 2 (.slice a n c) n (cellsF fs))(hF:∀r,(Value.slice a n c).ownBlock=some r→F r)(hn:fs.length=n)
  (hr:resA Tryz.prog s Tryz.f162.results.toList=some [.val (.slice a n c),.val (.string (bsL l)),.val (.int .i64 (o:Int))]):ScanR W0 (fs,l,o) act w:=by
 obtain ⟨y1,y2,y3⟩:=hst.resultsV (P:=Tryz.prog) (fn:=Tryz.f162) (v:=.tuple #[.slice a n c,.string (bsL l),.int .i64 (o:Int)]) hr rfl
 subst hn
 exact ⟨_,y1,y2,(L.chain _ y3).below,a,c,rfl,owns_keep hown fun r hr=>(hst.keep.frame r (hF r hr)).2⟩
def catS(fs:List Fr)(o:Nat)(x:Scd):Scd:=(fs++x.1,x.2.1,o+x.2.2)
section
variable (s s':ByteArray) (a:Option Addr) (n c:Nat) (o i m:Int) (x:Two Fr Bool)
theorem oS0:okNamed (mkSt 69 [0] [.string s] [] [] [] 4096 frH frT)=true:=by kernel_rfl
theorem oS1:okNamed (mkSt 69 [0,5] [.string s,.slice none 0 0] [] [] [] 4096 frH frT)=true:=by kernel_rfl
theorem oS2:okNamed (sS s a n c o [])=true:=by kernel_rfl
theorem oS3:okNamed (sS s a n c o [(7,.int .i64 i)])=true:=by kernel_rfl
theorem oS8:okNamed (sS s a n c o [(8,.int .i64 i)])=true:=by kernel_rfl
theorem oS4:okNamed (mkSt 69 [0,5,6,7,2,3,4] [.string s,.slice a n c,.int .i64 o,.int .i64 i,.slice a n c,.string ⟨#[]⟩,.int .i64 m] [] [] [] 4096 frH frT)=true:=by kernel_rfl
theorem oS7:okNamed (mkSt 69 [0,5,6,2,3,4] [.string s,.slice a n c,.int .i64 o,.slice a n c,.string s,.int .i64 o] [] [] [] 4096 frH frT)=true:=by kernel_rfl
theorem oS10:okNamed (mkSt 69 [0,5,6,8,2,3,4] [.string s,.slice a n c,.int .i64 o,.int .i64 m,.slice a n c,.string s,.int .i64 o] [] [] [] 4096 frH frT)=true:=by kernel_rfl
theorem oSX:okNamed (sX' s a n c o m x)=true:=by kernel_rfl
theorem oSY:okNamed (sY s a n c o m x)=true:=by kernel_rfl
theorem oS15:okNamed {sS s a n c o []with lo:=fr2}=true:=by kernel_rfl
theorem rS4:resA Tryz.prog (mkSt 69 [0,5,6,7,2,3,4] [.string s,.slice a n c,.int .i64 o,.int .i64 i,.slice a n c,.string ⟨#[]⟩,.int .i64 m] [] [] [] 4096 frH frT) Tryz.f162.results.toList=some [.val (.slice a n c),.val (.string ⟨#[]⟩),.val (.int .i64 m)]:=by kernel_rfl
theorem rS7:resA Tryz.prog (mkSt 69 [0,5,6,2,3,4] [.string s,.slice a n c,.int .i64 o,.slice a n c,.string s,.int .i64 o] [] [] [] 4096 frH frT) Tryz.f162.results.toList=some [.val (.slice a n c),.val (.string s),.val (.int .i64 o)]:=by kernel_rfl
theorem rS10:resA Tryz.prog (mkSt 69 [0,5,6,8,2,3,4] [.string s,.slice a n c,.int .i64 o,.int .i64 m,.slice a n c,.string s,.int .i64 o] [] [] [] 4096 frH frT) Tryz.f162.results.toList=some [.val (.slice a n c),.val (.string s),.val (.int .i64 o)]:=by kernel_rfl
end
theorem scG:GamOk Tryz.prog (scGam idxV szOk fun p=>openV p.1):=.cons okIdx (.cons okOpen .nil)
theorem scCall:∀β,CallOk Tryz.prog (callN Tryz.prog {gam:=scGam idxV szOk fun p=>openV p.1} 1 β):=callN_ok (E:={gam:=scGam idxV szOk fun p=>openV p.1}) scG 1
end Go.Ab
