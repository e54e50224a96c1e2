/- A part of the proofs: lemmas, no statement of their own; no condition. -/
import Derived.Test.YtoocjipllmkjcaaGreatAbG
namespace Go.Ab
variable {β:Type}
section
variable {P:Program} {N:Nat} {ops:Array Oper} {i:Nat} {tmps:List AV} {heap:Hp} {o:Oper} {lo hi:Nat} {K:Wr→Wr→Option β} {res:β}
theorem Want.append{rd rd':Wr}(h:Want N ops o rd):Want N ops o (rd++rd') :=
 fun w0 own σ u a w hf hr=>h w0 own σ u a w hf fun x hx=>hr x (List.mem_append_left _ hx)
theorem T0q{call:R0c β}(hcall:D0t P call){rd0:Wr}(ho:ops[i]?=some o)(hw0:Want N ops o rd0)(hg0:Good tmps heap rd0)(h:P1u P call N tmps heap o rd0 lo hi K=some res):Done P N ops i tmps heap lo hi K res:=by
 have hw:Want N ops o (rd0++D0q tmps o):=hw0.append
 have hg:Good tmps heap (rd0++D0q tmps o):=hg0.append (A2c tmps heap o)
 have hsub:∀p∈D0q tmps o,p∈rd0++D0q tmps o:=fun p hp=>List.mem_append_right _ hp
 unfold P1u at h
 simp only at h
 split at h
 ·rename_i x e;exact B1t (.inl e) ho hw hg hsub h
 ·rename_i x e;exact B1t (.inr e) ho hw hg hsub h
 ·rename_i c x y e;exact V1b e ho hw hg hsub h
 ·rename_i x e;exact B2h e ho hw hg hsub h
 ·rename_i s x f e;exact P1w e ho hw hg hsub h
 ·rename_i t x ix e;exact P1x e ho hw hg hsub h
 ·rename_i t x l hh m e
  split at h
  ·rename_i hs;exact B2g e ho hw hg hsub hs h
  ·exact D0a ho hw hg hsub h
  ·exact P1y e ho hw hg hsub h
 ·rename_i t x e;exact B2c e ho hw hg hsub h
 ·rename_i t x e;exact U1y e ho hw hg hsub h
 ·rename_i t x y e;exact P1z e ho hw hg hsub h
 ·rename_i t e;exact P1t e ho hw hg h
 ·rename_i t x e;exact B2e e ho hw hg hsub h
 ·rename_i t len parts e;exact X0c e ho hw hg hsub h
 ·rename_i fn a b e;exact B1q e ho hw hg hsub h
 ·rename_i x ix e;exact D1t e ho hw hg hsub h
 ·rename_i c e;exact U1u hcall e ho hw hg hsub h
 ·rename_i op t x y ty e;exact B2d e ho hw hg hsub h
 ·rename_i t r e;exact D1u e ho hw hg h
 ·rename_i t x y e;exact Y0w e ho hw hg hsub h
 ·rename_i t m x y e;exact G1t (.inl e) ho hw hg hsub h
 ·rename_i t m x y e;exact G1t (.inr e) ho hw hg hsub h
 ·rename_i t m x ok e;exact U1z e ho hw hg hsub h
 ·rename_i t x ix e;exact V1a e ho hw hg hsub h
 ·rename_i src dst x e;exact U1v e ho hw hg hsub h
 ·rename_i t parts e;exact P1v e ho hw hg hsub h
 all_goals first | exact D0a ho hw hg hsub h | cases h
theorem W1u{o:Oper}(h:o.guard=none)(rd:Wr):Want N ops o rd:=fun _ _ _ _ _ _ _ _=>by simp[Region.wanted,h]
theorem H1p{a:Act}{g t:Nat}{x:Value}(hd:(ops[g]?).bind (·.dst)=some t)(h:a.tmps[t]?=some x):yielded ops a.tmps g=match x with | .bool b=>some b | _=>none:=by
 unfold yielded
 rw[hd]
 simp only[Option.bind_some,h]
 cases x<;>rfl
theorem C1t{rd:Wr}(ho:ops[i]?=some o)(hg:Good tmps heap rd)(hno:∀w0 own σ u a w,Fits N w0 own σ u a w→(∀x∈rd,u x.1=some x.2)→Region.wanted o (yielded ops a.tmps)=false)
  (h:fin N o rd (.val undef) [] K=some res):Done P N ops i tmps heap lo hi K res:=by
 unfold fin at h
 split at h
 ·rename_i d hd
  split at h
  ·rename_i hlt
   refine ⟨rd,_,h,hg,fun Q w0 own σ u a w hf hr hn K' hK=>?_⟩
   unfold wpOp
   rw[ho]
   simp only
   rw[if_neg (by rw[hno w0 own σ u a w hf hr];simp)]
   refine hK σ _ w (Le.refl σ) (fun _ h _=>h) ?_
   rw[hd]
   exact hf.put (of_decide_eq_true hlt) (by simp[Rel])
  ·cases h
 ·rename_i hd
  refine ⟨rd,_,h,hg,fun Q w0 own σ u a w hf hr hn K' hK=>?_⟩
  unfold wpOp
  rw[ho]
  simp only
  rw[if_neg (by rw[hno w0 own σ u a w hf hr];simp)]
  refine hK σ _ w (Le.refl σ) (fun _ h _=>h) ?_
  rw[hd]
  exact hf
theorem J0b{c:Operand}{b:Bool}(h:opd tmps c=some (.val (.bool b))):conc tmps c b=tmps:=by
 cases c with
 | tmp t =>
  simp only[opd]at h
  simp only[conc]
  apply List.ext_getElem?
  intro k
  by_cases e:t=k
  ·subst e
   have hlt:=(List.getElem?_eq_some_iff.1 h).1
   rw[h]
   simp[hlt]
  ·rw[List.getElem?_set_ne e]
 | _=>rfl
theorem B2j{call:R0c β}{K:List AV→Wr→Wr→Option β}(hcall:D0t P call)(ho:ops[i]?=some o)(h:P3e P call N ops tmps heap o lo hi K=some res):Done P N ops i tmps heap lo hi (K tmps) res:=by
 unfold P3e at h
 split at h
 ·rename_i hgd
  exact T0q hcall ho (W1u hgd []) (fun x hx=>by cases hx) h
 ·rename_i g want hgd
  split at h
  ·cases h
  ·rename_i t hd
   split at h
   ·rename_i b hb
    have hgood:Good tmps heap [(.tmp t,.av (.val (.bool b)))]:=by
     intro x hx;simp at hx;subst hx;simp[stU,hb]
    have hy:∀(w0:World) (own:Nat→Prop) (σ:Nat→Option Nat) (u:U) (a:Act) (w:World),Fits N w0 own σ u a w→(∀x∈[((Loc.tmp t,Con.av (.val (.bool b))):Loc×Con)],u x.1=some x.2)→yielded ops a.tmps g=some b:=by
     intro w0 own σ u a w hf hr
     obtain ⟨x,h1,h2⟩:=hf.tmp t _ (hr _ (List.mem_singleton.2 rfl))
     simp only[Rel]at h2
     subst h2
     rw[H1p hd h1]
    have yes:want=b→Want N ops o [(.tmp t,.av (.val (.bool b)))]:=by
     intro e w0 own σ u a w hf hr
     simp only[Region.wanted,hgd,hy w0 own σ u a w hf hr,e]
     simp
    have no:want≠b→∀(w0:World) (own:Nat→Prop) (σ:Nat→Option Nat) (u:U) (a:Act) (w:World),Fits N w0 own σ u a w→(∀x∈[((Loc.tmp t,Con.av (.val (.bool b))):Loc×Con)],u x.1=some x.2)→Region.wanted o (yielded ops a.tmps)=false:=by
     intro e w0 own σ u a w hf hr
     simp only[Region.wanted,hgd,hy w0 own σ u a w hf hr]
     simpa using fun h=>e h.symm
    split at h
    ·cases b with
     | true=>rw[cond_true,J0b (c:=.tmp t) hb]at h;exact T0q hcall ho (yes rfl) hgood h
     | false=>rw[cond_false,J0b (c:=.tmp t) hb]at h;exact C1t ho hgood (no (by simp)) h
    ·cases b with
     | true=>rw[cond_true,J0b (c:=.tmp t) hb]at h;exact C1t ho hgood (no (by simp)) h
     | false=>rw[cond_false,J0b (c:=.tmp t) hb]at h;exact T0q hcall ho (yes rfl) hgood h
   ·rename_i vs hb
    have hgood:Good tmps heap [(.tmp t,.av (.val (.tuple vs)))]:=by
     intro x hx;simp at hx;subst hx;simp[stU,hb]
    refine C1t ho hgood (fun w0 own σ u a w hf hr=>?_) h
    obtain ⟨x,h1,h2⟩:=hf.tmp t _ (hr _ (List.mem_singleton.2 rfl))
    simp only[Rel]at h2
    subst h2
    simp only[Region.wanted,hgd,H1p hd h1]
    simp
   ·cases h
end
structure St where
 tmps:List AV
 heap:Hp
 lo:Nat
 hi:Nat
 step:Nat
 log:List Loc
def St.u(s:St):U:=stU s.tmps s.heap
def wr1(tmps:List AV)(heap:Hp):Loc×Con→List AV×Hp
 | (.tmp t,.av a)=>(tmps.set t a,heap)
 | (.tmp _,_)=>([],heap)
 | (.blk b,c)=>(tmps,put heap b c)
where put:Hp→Nat→Con→Hp
 | [],b,c=>[(b,c)]
 | (b',c') :: r,b,c=>match Nat.beq b' b with
  | true=>(b,c) :: r
  | false=>(b',c') :: put r b c
def R0m(tmps:List AV)(heap:Hp):Wr→List AV×Hp
 | []=>(tmps,heap)
 | x :: r=>let q:=R0m tmps heap r;wr1 q.1 q.2 x
theorem X1y(heap:Hp)(b b':Nat)(c:Con):hget (wr1.put heap b c) b'=if b'=b then some c else hget heap b':=by
 induction heap with
 | nil =>
  simp only[wr1.put,hget]
  by_cases e:b'=b
  ·subst e;simp
  ·have:Nat.beq b b'=false:=by
    cases hb:Nat.beq b b' with
    | false=>rfl
    | true=>exact absurd (Nat.eq_of_beq_eq_true hb).symm e
   simp[this,e]
 | cons p heap ih =>
  obtain ⟨x,cx⟩:=p
  simp only[wr1.put]
  split
  ·rename_i e
   have e:=Nat.eq_of_beq_eq_true e
   subst e
   simp only[hget]
   by_cases e2:b'=x
   ·subst e2;simp
   ·have:Nat.beq x b'=false:=by
     cases hb:Nat.beq x b' with
     | false=>rfl
     | true=>exact absurd (Nat.eq_of_beq_eq_true hb).symm e2
    simp[this,e2]
  ·rename_i e
   simp only[hget,ih]
   split
   ·rename_i e2
    have e2:=Nat.eq_of_beq_eq_true e2
    subst e2
    rw[if_neg]
    intro e3
    rw[e3]at e
    simp at e
   ·rfl
theorem V3d(tmps:List AV)(heap:Hp)(x:Loc×Con):Sub (stU (wr1 tmps heap x).1 (wr1 tmps heap x).2) (upd1 (stU tmps heap) x.1 x.2):=by
 obtain ⟨l,c⟩:=x
 intro l' c' h
 cases l with
 | tmp t =>
  cases c with
  | av a =>
   simp only[wr1]at h
   cases l' with
   | tmp t' =>
    simp only[stU,upd1]at h ⊢
    by_cases e:t'=t
    ·subst e
     rcases Nat.lt_or_ge t' tmps.length with hl | hl
     ·simp[hl]at h;simp[h]
     ·simp[List.getElem?_eq_none (show (tmps.set t' a).length≤t' by simpa using hl)]at h
    ·rw[List.getElem?_set_ne (Ne.symm e)]at h
     simp[e,h]
   | blk b=>simpa[stU,upd1]using h
  | row e cs =>
   simp only[wr1]at h
   cases l' with
   | tmp t'=>simp[stU]at h
   | blk b=>simpa[stU,upd1]using h
  | obj ob =>
   simp only[wr1]at h
   cases l' with
   | tmp t'=>simp[stU]at h
   | blk b=>simpa[stU,upd1]using h
 | blk b =>
  simp only[wr1]at h
  cases l' with
  | tmp t'=>simpa[stU,upd1]using h
  | blk b' =>
   simp only[stU,upd1,X1y]at h ⊢
   simpa using h
end Go.Ab
namespace Go.Ab
variable {β:Type}
structure It where
 i:Nat
 rd:Wr
 wr:Wr
 lo:Nat
 hi:Nat
def E0c(P:Program)(N:Nat)(ops:Array Oper):List It→U→U→Prop
 | [],u,u'=>u'=u
 | it :: r,u,u'=>(∀x∈it.rd,u x.1=some x.2)∧Exec P N ops it.i it.rd it.wr it.lo it.hi∧E0c P N ops r (upd u it.wr) u'
def R1k(items:List It)(σ:Nat→Option Nat):Prop:=∀it∈items,∀b,it.lo≤b→b<it.hi→σ b=none
def Out(items:List It)(σ σ':Nat→Option Nat):Prop:=∀b,σ b=none→(∀it∈items,b<it.lo∨it.hi≤b)→σ' b=none
def R1h(a b:It):Prop:=a.hi≤b.lo∨b.hi≤a.lo
section
variable {P:Program} {N:Nat} {ops:Array Oper} {Q:Exit→Act→World→Prop} {w0:World} {own:Nat→Prop}
theorem M1v:∀(items:List It) (u u':U) (σ:Nat→Option Nat) (a:Act) (w:World),E0c P N ops items u u'→Fits N w0 own σ u a w→R1k items σ→items.Pairwise R1h →
  (∀σ' a' w',Le σ σ'→Out items σ σ'→Fits N w0 own σ' u' a' w'→Q .normal a' w')→wpOps P ops Q (items.map (·.i)) a w
 | [],u,u',σ,a,w,hc,hf,_,_,hQ=>by
  simp only[E0c]at hc
  subst hc
  exact hQ σ a w (Le.refl σ) (fun _ h _=>h) hf
 | it :: r,u,u',σ,a,w,hc,hf,hn,hp,hQ=>by
  obtain ⟨h1,h2,h3⟩:=hc
  simp only[List.map_cons,wpOps_cons]
  rw[List.pairwise_cons]at hp
  refine h2 Q w0 own σ u a w hf h1 (hn it (List.mem_cons_self ..)) _ fun σ' a' w' hle hout hf'=>?_
  refine M1v r _ u' σ' a' w' h3 hf' (fun x hx b hb1 hb2=>?_) hp.2 fun σ'' a'' w'' hle' hout' hf''=>?_
  ·refine hout b (hn x (List.mem_cons_of_mem _ hx) b hb1 hb2) ?_
   rcases hp.1 x hx with h | h<;>omega
  ·refine hQ σ'' a'' w'' (hle.trans hle') (fun b hb hb'=>?_) hf''
   exact hout' b (hout b hb (hb' it (List.mem_cons_self ..))) fun x hx=>hb' x (List.mem_cons_of_mem _ hx)
def C2q(a b:It):Prop :=
 (∀p∈a.wr,∀q∈b.rd,p.1≠q.1)∧(∀p∈a.wr,∀q∈b.wr,p.1≠q.1)∧(∀p∈a.rd,∀q∈b.wr,p.1≠q.1)
theorem E0c.over{wr:Wr}:∀{items:List It} {u u':U},E0c P N ops items u u'→(∀it∈items,(∀p∈wr,∀q∈it.rd,q.1≠p.1)∧(∀p∈wr,∀q∈it.wr,q.1≠p.1)) →
  E0c P N ops items (upd u wr) (upd u' wr)
 | [],u,u',h,_=>by simp only[E0c]at h ⊢;rw[h]
 | it :: r,u,u',h,hd=>by
  obtain ⟨h1,h2,h3⟩:=h
  have hd0:=hd it (List.mem_cons_self ..)
  refine ⟨fun x hx=>?_,h2,?_⟩
  ·rw[K0b _ _ _ fun p hp e=>hd0.1 p hp x hx e.symm]
   exact h1 x hx
  ·rw[Z1h u wr it.wr fun p hp q hq e=>hd0.2 p hp q hq e.symm]
   exact E0c.over h3 fun x hx=>hd x (List.mem_cons_of_mem _ hx)
theorem E0c.append:∀{a b:List It} {u v w:U},E0c P N ops a u v→E0c P N ops b v w→E0c P N ops (a++b) u w
 | [],_,_,_,_,h,k=>by simp only[E0c]at h;subst h;exact k
 | _ :: _,_,_,_,_,h,k=>⟨h.1,h.2.1,E0c.append h.2.2 k⟩
theorem E0c.split:∀{a b:List It} {u w:U},E0c P N ops (a++b) u w→∃v,E0c P N ops a u v∧E0c P N ops b v w
 | [],_,u,_,h=>⟨u,rfl,h⟩
 | _ :: _,_,_,_,h=>by
  obtain ⟨v,h1,h2⟩:=E0c.split h.2.2
  exact ⟨v,⟨h.1,h.2.1,h1⟩,h2⟩
theorem E0c.stays:∀{items:List It} {u u':U} {l:Loc},E0c P N ops items u u'→(∀it∈items,∀p∈it.wr,p.1≠l)→u' l=u l
 | [],u,u',l,h,_=>by simp only[E0c]at h;rw[h]
 | it :: r,u,u',l,h,hd=>by
  rw[E0c.stays h.2.2 fun x hx=>hd x (List.mem_cons_of_mem _ hx),K0b _ _ _ (hd it (List.mem_cons_self ..))]
theorem E0c.first{pre post:List It}{it:It}{u u':U}(h:E0c P N ops (pre++it :: post) u u')(hi:∀p∈pre,C2q p it):E0c P N ops (it :: (pre++post)) u u':=by
 obtain ⟨v,h1,h2,h3,h4⟩:=E0c.split h
 refine ⟨fun x hx=>?_,h3,?_⟩
 ·rw[← E0c.stays h1 fun p hp q hq=>(hi p hp).1 q hq x hx]
  exact h2 x hx
 ·refine E0c.append (E0c.over h1 fun p hp=>⟨fun q hq r hr=>(hi p hp).2.2 r hr q hq,fun q hq r hr=>(hi p hp).2.1 r hr q hq⟩) h4
def X0v(ops:Array Oper)(ls:Array Bool):Prop:=∀(j:Nat) (o:Oper),ops[j]?=some o→ls.getD j false=true→∀e∈o.after,Region.binds .any e=true→ls.getD e.on false=true
theorem X0v.set{ops:Array Oper}{ls:Array Bool}(h:X0v ops ls){i:Nat}(hi:i∈Region.ready .any ops ls):X0v ops (ls.setIfInBounds i true):=by
 obtain ⟨_,o0,h2,h3⟩:=mem_ready.1 hi
 intro j o ho hj e he hb
 by_cases e1:i=j
 ·subst e1
  rw[ho]at h2
  cases h2
  exact getD_set_true (h3 e he hb)
 ·rw[getD_set_ne false e1]at hj
  exact getD_set_true (h j o ho hj e he hb)
theorem M1u:∀(n:Nat) (items:List It) (listed:Array Bool) (u u':U) (σ:Nat→Option Nat) (a:Act) (w:World),items.length=n→E0c P N ops items u u'→Fits N w0 own σ u a w→R1k items σ→items.Pairwise R1h →
  listed.size=ops.size→(∀j,j<ops.size→(listed.getD j true=false↔∃it∈items,it.i=j))→(∀it∈items,it.i<ops.size)→(items.map (·.i)).Nodup →
  X0v ops listed→(∀(pre post:List It) (it:It) (ls:Array Bool),X0v ops ls→(pre++it :: post).Sublist items →
   it.i∈Region.ready .any ops ls→(∀p∈pre,ls.getD p.i true=false)→∀p∈pre,C2q p it) →
  (∀(ls:Array Bool) (l:List It),ls.size=ops.size→l.Sublist items→l≠[]→(∀j,j<ops.size→(ls.getD j true=false↔∃it∈l,it.i=j))→Region.ready .any ops ls≠[]) →
  (∀σ' a' w',Le σ σ'→Out items σ σ'→Fits N w0 own σ' u' a' w'→Q .normal a' w')→wpAny P .any ops Q n listed a w
 | 0,items,listed,u,u',σ,a,w,hl,hc,hf,_,_,hls,hli,_,_,_,_,_,hQ=>by
  have:items=[]:=List.eq_nil_of_length_eq_zero hl
  subst this
  simp only[E0c]at hc
  subst hc
  refine ⟨?_,hQ σ a w (Le.refl σ) (fun _ h _=>h) hf⟩
  cases hr:Region.ready .any ops listed with
  | nil=>rfl
  | cons x xs =>
   have hx:x∈Region.ready .any ops listed:=by rw[hr];simp
   obtain ⟨h1,o,h2,_⟩:=mem_ready.1 hx
   have hlt:x<ops.size:=(Array.getElem?_eq_some_iff.1 h2).1
   obtain ⟨it,h3,_⟩:=(hli x hlt).1 h1
   cases h3
 | n+1,items,listed,u,u',σ,a,w,hl,hc,hf,hn,hp,hls,hli,hlt,hnd,hcl,hind,hne,hQ=>by
  refine ⟨fun h0=>absurd h0 (hne listed items hls (List.Sublist.refl _) (by intro e;subst e;cases hl) hli),fun j hj=>?_⟩
  obtain ⟨h1,o,h2,_⟩:=mem_ready.1 hj
  have hjlt:j<ops.size:=(Array.getElem?_eq_some_iff.1 h2).1
  obtain ⟨it,hit,rfl⟩:=(hli j hjlt).1 h1
  obtain ⟨pre,post,rfl⟩:=List.append_of_mem hit
  have hpre:∀p∈pre,listed.getD p.i true=false:=fun p hpp=>(hli p.i (hlt p (by simp[hpp]))).2 ⟨p,by simp[hpp],rfl⟩
  have hc':=E0c.first hc (hind pre post it listed hcl (List.Sublist.refl _) hj hpre)
  obtain ⟨c1,c2,c3⟩:=hc'
  have hsub:(pre++post).Sublist (pre++it :: post):=List.Sublist.append (List.Sublist.refl _) (List.sublist_cons_self ..)
  have hsubm:∀p∈pre++post,p∈pre++it :: post:=fun p hpp=>hsub.subset hpp
  have hap:∀p∈pre++post,R1h p it∨R1h it p:=by
   intro p hpp
   rw[List.pairwise_append]at hp
   rcases List.mem_append.1 hpp with h | h
   ·exact .inl (hp.2.2 p h it (by simp))
   ·exact .inr ((List.pairwise_cons.1 hp.2.1).1 p h)
  have hnotin:∀p∈pre++post,p.i≠it.i:=by
   intro p hpp e
   simp only[List.map_append,List.map_cons]at hnd
   rw[List.nodup_append]at hnd
   rcases List.mem_append.1 hpp with h | h
   ·exact hnd.2.2 p.i (List.mem_map.2 ⟨p,h,rfl⟩) it.i (by simp) e
   ·exact (List.nodup_cons.1 hnd.2.1).1 (e ▸ List.mem_map.2 ⟨p,h,rfl⟩)
  have hset:∀k,k<ops.size→((listed.setIfInBounds it.i true).getD k true=false↔∃x∈pre++post,x.i=k):=by
   intro k hk
   by_cases e:k=it.i
   ·subst e
    have:(listed.setIfInBounds it.i true).getD it.i true=true:=by simp[hls,hjlt]
    rw[this]
    constructor
    ·intro h;cases h
    ·rintro ⟨x,hx,e⟩;exact absurd e (hnotin x hx)
   ·rw[getD_set_ne true (Ne.symm e),hli k hk]
    constructor
    ·rintro ⟨x,hx,rfl⟩
     refine ⟨x,?_,rfl⟩
     simp only[List.mem_append,List.mem_cons]at hx ⊢
     rcases hx with h | rfl | h
     ·exact .inl h
     ·exact absurd rfl e
     ·exact .inr h
    ·rintro ⟨x,hx,rfl⟩;exact ⟨x,hsubm x hx,rfl⟩
  refine c2 Q w0 own σ u a w hf c1 (hn it hit) _ fun σ' a' w' hle hout hf'=>?_
  refine M1u n (pre++post) (listed.setIfInBounds it.i true) _ u' σ' a' w' ?_ c3 hf' (fun x hx b hb1 hb2=>?_) (hp.sublist hsub) (by simpa using hls) hset (fun x hx=>hlt x (hsubm x hx))
   (hnd.sublist (hsub.map _)) (hcl.set hj) (fun pre' post' it' ls h0 h4=>hind pre' post' it' ls h0 (h4.trans hsub))
   (fun ls l h0 h1=>hne ls l h0 (h1.trans hsub)) fun σ'' a'' w'' hle' hout' hf''=>?_
  ·simp only[List.length_append,List.length_cons]at hl ⊢;omega
  ·refine hout b (hn x (hsubm x hx) b hb1 hb2) ?_
   rcases hap x hx with h | h<;>rcases h with h | h<;>omega
  ·refine hQ σ'' a'' w'' (hle.trans hle') (fun b hb hb'=>?_) hf''
   exact hout' b (hout b hb (hb' it hit)) fun x hx=>hb' x (hsubm x hx)
end
end Go.Ab
namespace Go.Ab
variable {β:Type}
def P1c:Loc→Loc→Bool
 | .tmp a,.tmp b=>Nat.beq a b
 | .blk a,.blk b=>Nat.beq a b
 | _,_=>false
theorem G1b{a b:Loc}(h:P1c a b=false):a≠b:=by
 intro e
 subst e
 cases a<;>simp[P1c]at h
structure Foot where
 rd:List Loc
 wr:List Loc
def U2x(a b:List Loc):Bool:=a.all fun x=>b.all fun y=>!P1c x y
theorem W0k{a b:List Loc}(h:U2x a b=true):∀x∈a,∀y∈b,x≠y:=by
 intro x hx y hy
 have :=List.all_eq_true.1 (List.all_eq_true.1 h x hx) y hy
 exact G1b (by simpa using this)
def N1y(a b:Foot):Bool:=U2x a.wr b.rd&&U2x a.wr b.wr&&U2x a.rd b.wr
def C3e(rd wr:Wr):Foot:=⟨rd.map (·.1),wr.map (·.1)⟩
def It.foot(it:It):Foot:=C3e it.rd it.wr
theorem A1n{a b:It}(h:N1y a.foot b.foot=true):C2q a b:=by
 simp only[N1y,Bool.and_eq_true]at h
 refine ⟨fun p hp q hq=>W0k h.1.1 _ (List.mem_map.2 ⟨p,hp,rfl⟩) _ (List.mem_map.2 ⟨q,hq,rfl⟩),fun p hp q hq=>W0k h.1.2 _ (List.mem_map.2 ⟨p,hp,rfl⟩) _ (List.mem_map.2 ⟨q,hq,rfl⟩),fun p hp q hq=>W0k h.2 _ (List.mem_map.2 ⟨p,hp,rfl⟩) _ (List.mem_map.2 ⟨q,hq,rfl⟩)⟩
def E0v(o:Oper):List Nat:=o.after.toList.filterMap fun e=>match Region.binds .any e with | true=>some e.on | false=>none
theorem E0h{o:Oper}{k:Nat}:k∈E0v o↔∃e∈o.after,Region.binds .any e=true∧e.on=k:=by
 unfold E0v
 rw[List.mem_filterMap]
 constructor
 ·rintro ⟨e,he,h⟩
  cases hb:Region.binds .any e with
  | true=>rw[hb]at h;simp at h;exact ⟨e,by simpa using he,hb,h⟩
  | false=>rw[hb]at h;cases h
 ·rintro ⟨e,he,hb,rfl⟩
  exact ⟨e,by simpa using he,by rw[hb]⟩
def B2k(acc:List Nat):List Nat→Nat
 | []=>0
 | e :: r=>(2^e ||| (acc[e]?).getD 0) ||| B2k acc r
theorem G1w(acc:List Nat):∀(l:List Nat) (p:Nat),(B2k acc l).testBit p=true→∃e∈l,p=e∨∃m:Nat,acc[e]?=some m∧m.testBit p=true
 | [],p,h=>by simp[B2k]at h
 | e :: r,p,h=>by
  simp only[B2k,Nat.testBit_or,Bool.or_eq_true]at h
  rcases h with (h | h) | h
  ·refine ⟨e,by simp,.inl ?_⟩
   rw[Nat.testBit_two_pow]at h
   simp at h;exact h.symm
  ·cases hm:acc[e]? with
   | none=>simp[hm]at h
   | some m=>rw[hm]at h;exact ⟨e,by simp,.inr ⟨m,hm,by simpa using h⟩⟩
  ·obtain ⟨e',h1,h2⟩:=G1w acc r p h
   exact ⟨e',by simp[h1],h2⟩
def U0r{γ:Type}(n:Nat)(k:Nat→γ):γ:=match n with | 0=>k 0 | m+1=>k (m+1)
theorem K0p{γ:Type}(n:Nat)(k:Nat→γ):U0r n k=k n:=by cases n<;>rfl
def befs:List Oper→List Nat→List Nat
 | [],acc=>acc
 | o :: r,acc=>U0r (B2k acc (E0v o)) fun m=>befs r (acc++[m])
def C2j(done:List Oper)(acc:List Nat):Prop :=
 acc.length=done.length∧∀(j:Nat) (o:Oper) (m:Nat),done[j]?=some o→acc[j]?=some m→∀p,m.testBit p=true→∃e∈E0v o,p=e∨∃m':Nat,acc[e]?=some m'∧m'.testBit p=true
theorem T1a:∀(l done:List Oper) (acc:List Nat),C2j done acc→C2j (done++l) (befs l acc)
 | [],done,acc,h=>by simpa[befs]using h
 | o :: r,done,acc,h=>by
  simp only[befs,K0p]
  have:done++o :: r=(done++[o])++r:=by simp
  rw[this]
  refine T1a r (done++[o]) _ ⟨by simp[h.1],fun j o' m hj hm p hp=>?_⟩
  have lift:∀e m',acc[e]?=some m'→(acc++[B2k acc (E0v o)])[e]?=some m':=fun e m' he=>by
   rw[List.getElem?_append_left (List.getElem?_eq_some_iff.1 he).1];exact he
  by_cases hjl:j<done.length
  ·rw[List.getElem?_append_left hjl]at hj
   rw[List.getElem?_append_left (by rw[h.1];exact hjl)]at hm
   obtain ⟨e,h1,h2⟩:=h.2 j o' m hj hm p hp
   exact ⟨e,h1,h2.imp id fun ⟨m',h3,h4⟩=>⟨m',lift e m' h3,h4⟩⟩
  ·rw[List.getElem?_append_right (by omega)]at hj
   rw[List.getElem?_append_right (by rw[h.1];omega)]at hm
   have e0:j-done.length=0:=by
    have :=(List.getElem?_eq_some_iff.1 hj).1
    simp at this;omega
   rw[e0]at hj
   rw[h.1,e0]at hm
   simp at hj hm
   subst hj hm
   obtain ⟨e,h1,h2⟩:=G1w acc _ p hp
   exact ⟨e,h1,h2.imp id fun ⟨m',h3,h4⟩=>⟨m',lift e m' h3,h4⟩⟩
def W0m:Nat→List Oper→Bool
 | _,[]=>true
 | k,o :: r=>(E0v o).all (fun e=>Nat.blt e k)&&W0m (k+1) r
theorem J0c:∀(l:List Oper) (k:Nat),W0m k l=true→∀(j:Nat) (o:Oper),l[j]?=some o→∀e∈E0v o,e<k+j
 | [],_,_,j,o,h,_,_=>by simp at h
 | o' :: r,k,h,j,o,hj,e,he=>by
  simp only[W0m,Bool.and_eq_true]at h
  cases j with
  | zero =>
   simp at hj;subst hj
   have :=List.all_eq_true.1 h.1 e he
   simpa[Nat.blt_eq]using this
  | succ j =>
   simp at hj
   have :=J0c r (k+1) h.2 j o hj e he
   omega
theorem E1z{ops:Array Oper}{ls:Array Bool}(hcl:X0v ops ls)(hed:W0m 0 ops.toList=true){B:List Nat}(hB:C2j ops.toList B) :
  ∀(n e:Nat),e<n→ls.getD e false=true→∀m p:Nat,B[e]?=some m→m.testBit p=true→ls.getD p false=true:=by
 intro n
 induction n with
 | zero=>intro e h;omega
 | succ n ih =>
  intro e he hl m p hm hp
  have hlt:e<ops.toList.length:=by rw[← hB.1];exact (List.getElem?_eq_some_iff.1 hm).1
  obtain ⟨o,ho⟩:∃o,ops.toList[e]?=some o:=⟨_,List.getElem?_eq_getElem hlt⟩
  obtain ⟨e',h1,h2⟩:=hB.2 e o m ho hm p hp
  have hlt':=J0c _ 0 hed e o ho e' h1
  obtain ⟨ed,h3,h4,h5⟩:=E0h.1 h1
  have hl':ls.getD e' false=true:=by rw[← h5];exact hcl e o (by simpa using ho) hl ed h3 h4
  rcases h2 with rfl | ⟨m',h6,h7⟩
  ·exact hl'
  ·exact ih e' (by omega) hl' m' p h6 h7
def chk:Nat→List (Nat×Foot)→List Foot→List Nat→Bool
 | k,prev,f :: fs,m :: ms=>(prev.all fun q=>m.testBit q.1||N1y q.2 f)&&chk (k+1) ((k,f) :: prev) fs ms
 | _,_,[],_=>true
 | _,_,_ :: _,[]=>false
theorem H1y:∀(fs:List Foot) (ms:List Nat) (k:Nat) (prev:List (Nat×Foot)),chk k prev fs ms=true →
  (∀q∈prev,∀(j:Nat) (f:Foot) (m:Nat),fs[j]?=some f→ms[j]?=some m→m.testBit q.1=true∨N1y q.2 f=true) ∧
  (∀(a b:Nat) (fa fb:Foot) (mb:Nat),a<b→fs[a]?=some fa→fs[b]?=some fb→ms[b]?=some mb→mb.testBit (k+a)=true∨N1y fa fb=true)
 | [],ms,k,prev,_=>⟨fun q _ j f m h=>by simp at h,fun a b fa fb mb _ h=>by simp at h⟩
 | f :: fs,[],k,prev,h=>by simp[chk]at h
 | f :: fs,m :: ms,k,prev,h=>by
  simp only[chk,Bool.and_eq_true]at h
  obtain ⟨h1,h2⟩:=H1y fs ms (k+1) ((k,f) :: prev) h.2
  refine ⟨fun q hq j f' m' hf hm=>?_,fun a b fa fb mb hab ha hb hm=>?_⟩
  ·cases j with
   | zero =>
    simp at hf hm;subst hf hm
    have :=List.all_eq_true.1 h.1 q hq
    simpa using this
   | succ j=>simp at hf hm;exact h1 q (by simp[hq]) j f' m' hf hm
  ·cases b with
   | zero=>omega
   | succ b =>
    simp at hb hm
    cases a with
    | zero=>simp at ha;subst ha;exact h1 (k,f) (by simp) b fb mb hb hm
    | succ a =>
     simp at ha
     have :=h2 a b fa fb mb (by omega) ha hb hm
     rwa [show k+1+a=k+(a+1) by omega]at this
def H1r(ops:List Oper)(feet:List Foot):Bool:=W0m 0 ops&&chk 0 [] feet (befs ops [])
section
variable {P:Program} {N:Nat} {ops:Array Oper} {Q:Exit→Act→World→Prop} {w0:World} {own:Nat→Prop}
theorem D1y{items:List It}(hlen:items.length=ops.size)(hix:∀(k:Nat) (it:It),items[k]?=some it→it.i=k)(hok:H1r ops.toList (items.map It.foot)=true){u u':U}{σ:Nat→Option Nat}{a:Act}{w:World}
  (hc:E0c P N ops items u u') (hf:Fits N w0 own σ u a w) (hn:R1k items σ) (hp:items.Pairwise R1h)
  (hQ:∀σ' a' w',Le σ σ'→Out items σ σ'→Fits N w0 own σ' u' a' w'→Q .normal a' w'):wpAny P .any ops Q ops.size (Array.replicate ops.size false) a w:=by
 simp only[H1r,Bool.and_eq_true]at hok
 obtain ⟨hed,hchk⟩:=hok
 have hB:C2j ops.toList (befs ops.toList []):=by
  have :=T1a ops.toList [] [] ⟨rfl,fun j o m h=>by simp at h⟩
  simpa using this
 have hspec:=(H1y _ _ 0 [] hchk).2
 have hinc:items.Pairwise fun a b=>a.i<b.i:=by
  rw[List.pairwise_iff_getElem]
  intro p q hp1 hq1 hpq
  rw[hix p _ (List.getElem?_eq_getElem hp1),hix q _ (List.getElem?_eq_getElem hq1)]
  exact hpq
 have hmem:∀it∈items,items[it.i]?=some it∧it.i<ops.size:=by
  intro it hit
  obtain ⟨k,hk,e⟩:=List.getElem_of_mem hit
  have h1:items[k]?=some it:=by rw[List.getElem?_eq_getElem hk,e]
  have :=hix k it h1
  rw[this]
  exact ⟨h1,by omega⟩
 refine M1u ops.size items (Array.replicate ops.size false) u u' σ a w hlen hc hf hn hp (by simp) (fun j hj=>?_) (fun it hit=>(hmem it hit).2) ?_ ?_ ?_ ?_ hQ
 ·have h1:(Array.replicate ops.size false).getD j true=false:=by simp[hj]
  refine ⟨fun _=>⟨items[j],List.getElem_mem _,hix j _ (List.getElem?_eq_getElem (by omega))⟩,fun _=>h1⟩
 ·rw[List.Nodup,List.pairwise_map]
  exact hinc.imp fun h=>Nat.ne_of_lt h
 ·intro j o _ h
  by_cases hj:j<ops.size
  ·simp[hj]at h
  ·simp[hj]at h
 ·intro pre post it ls hcl hsub hready hpre p hpp
  have hit:it∈items:=hsub.subset (by simp)
  have hpit:p∈items:=hsub.subset (by simp[hpp])
  have hlt:p.i<it.i:=by
   have :=hinc.sublist hsub
   rw[List.pairwise_append]at this
   exact this.2.2 p hpp it (by simp)
  obtain ⟨h1,o,h2,h3⟩:=mem_ready.1 hready
  obtain ⟨hi1,hi2⟩:=hmem it hit
  obtain ⟨hp1,hp2⟩:=hmem p hpit
  have hm:it.i<(befs ops.toList []).length:=by rw[hB.1];simpa using hi2
  rcases hspec p.i it.i p.foot it.foot (befs ops.toList [])[it.i] hlt (by simp[hp1]) (by simp[hi1]) (List.getElem?_eq_getElem hm) with h | h
  ·exfalso
   rw[Nat.zero_add]at h
   obtain ⟨e,h4,h5⟩:=hB.2 it.i o _ (by simpa using h2) (List.getElem?_eq_getElem hm) p.i h
   obtain ⟨ed,h6,h7,h8⟩:=E0h.1 h4
   have hl:=h3 ed h6 h7
   rw[h8]at hl
   have hpl:ls.getD p.i false=true:=by
    rcases h5 with h5 | ⟨m',h9,h10⟩
    ·rw[h5];exact hl
    ·exact E1z hcl hed hB (e+1) e (by omega) hl m' p.i h9 h10
   have hpf:=hpre p hpp
   rcases Nat.lt_or_ge p.i ls.size with hx | hx
   ·simp[hx]at hpl hpf;rw[hpl]at hpf;cases hpf
   ·simp[Array.getElem?_eq_none hx]at hpl
  ·exact A1n h
 ·intro ls l hsz hsub hne hiff hnil
  cases l with
  | nil=>exact hne rfl
  | cons it r =>
   have hit:it∈items:=hsub.subset (by simp)
   obtain ⟨hi1,hi2⟩:=hmem it hit
   have hinc':=hinc.sublist hsub
   rw[List.pairwise_cons]at hinc'
   have:it.i∈Region.ready .any ops ls:=by
    refine mem_ready.2 ⟨(hiff it.i hi2).2 ⟨it,by simp,rfl⟩,ops[it.i],Array.getElem?_eq_getElem hi2,fun e he hb=>?_⟩
    have hlt:=J0c _ 0 hed it.i ops[it.i] (by simp[Array.getElem?_eq_getElem hi2]) e.on (E0h.2 ⟨e,he,hb,rfl⟩)
    rw[Nat.zero_add]at hlt
    have hlt2:e.on<ls.size:=by omega
    cases hv:ls.getD e.on true with
    | false =>
     obtain ⟨x,hx,hxe⟩:=(hiff e.on (by omega)).1 hv
     simp only[List.mem_cons]at hx
     rcases hx with rfl | hx
     ·omega
     ·have :=hinc'.1 x hx;omega
    | true=>simp[hlt2]at hv ⊢;exact hv
   rw[hnil]at this
   cases this
end
end Go.Ab
