/- A part of the proofs: lemmas, no statement of their own; no condition. -/
import Derived.Test.YtoocjipllmkjcaaGreatGAbM
import Derived.Deep.Slices
namespace Go.Ab
open Go
def Own(σ:Nat→Option Nat):Nat→Prop:=fun k=>∃b,σ b=some k
structure Here(N:Nat)(s:St)(σ:Nat→Option Nat)(a:Act)(w:World):Prop where
 fits:∃u,Fits N w (Own σ) σ u a w∧Sub s.u u
 fresh:∀b,s.lo≤b→b<s.hi→σ b=none
structure C2r(own:Nat→Prop)(w w':World):Prop where
 os:w'.os=w.os
 tape:w'.tape=w.tape
 output:w'.output=w.output
 grown:w.heap.size≤w'.heap.size
 frame:∀k,k<w.heap.size→¬ own k→w'.heap[k]?=w.heap[k]?
theorem Here.start{N:Nat}(vals:List Value)(w:World)(lo hi step:Nat)(hN:vals.length≤N) :
  Here N ⟨vals.map .val++List.replicate (N-vals.length) (.val undef),[],lo,hi,step,[]⟩ (fun _=>none) {tmps:=List.toArray vals++Array.replicate (N-(List.toArray vals).size) undef,defers:=[]} w:=by
 have hargsR:Rels (fun _=>none) (vals.map .val++List.replicate (N-vals.length) (.val undef)) (vals++List.replicate (N-vals.length) undef):=Rels.append (Rels.vals vals) (Rels.undefs _ _)
 refine ⟨⟨St.u ⟨vals.map .val++List.replicate (N-vals.length) (.val undef),[],lo,hi,step,[]⟩,⟨rfl,by simp;omega,fun t v hv=>?_,fun b e cs hb=>?_,fun b o hb=>?_,(fun _ _ _ h=>by cases h),(fun _ _ h=>by cases h),(fun _ _ _ _ _ h=>by cases h),(fun _ _ _ _ h=>by cases h),rfl,rfl,rfl,Nat.le_refl _,fun _ _ _=>rfl⟩,Sub.refl _⟩,fun _ _ _=>rfl⟩
 ·simp only[St.u,stU,Option.map_eq_some_iff,Con.av.injEq]at hv
  obtain ⟨x,hx,rfl⟩:=hv
  obtain ⟨y,hy,hrel⟩:=Rels.get hargsR hx
  refine ⟨y,?_,hrel⟩
  rw[← hy]
  have:(List.toArray vals++Array.replicate (N-(List.toArray vals).size) undef)=List.toArray (vals++List.replicate (N-vals.length) undef):=by
   apply Array.toList_inj.1;simp
  simp only[this,List.getElem?_toArray]
 ·simp[St.u,stU,hget]at hb
 ·simp[St.u,stU,hget]at hb
theorem Here.results{P:Program}{fn:Func}{N:Nat}{s:St}{σ:Nat→Option Nat}{a:Act}{w:World}(h:Here N s σ a w){as:List AV}(hr:resA P s fn.results.toList=some as) :
  ∃v,(results fn a.tmps).run P w=.ok v w∧Rel σ (pack as) v∧a.defers=[]:=by
 obtain ⟨⟨u,hf,hs⟩,_⟩:=h
 obtain ⟨v,h1,h2⟩:=N0k hf hs hr
 exact ⟨v,h1,h2,hf.defers⟩
theorem Here.tmp{N:Nat}{s:St}{σ:Nat→Option Nat}{a:Act}{w:World}(h:Here N s σ a w){t:Nat}{v:AV}(ht:s.tmps[t]?=some v):∃x,a.tmps[t]?=some x∧Rel σ v x:=by
 obtain ⟨⟨u,hf,hs⟩,_⟩:=h
 exact hf.tmp t v (hs _ _ (by simp[St.u,stU,ht]))
structure Keep(F:Nat→Prop)(w0 w:World):Prop where
 os:w.os=w0.os
 tape:w.tape=w0.tape
 output:w.output=w0.output
 grown:w0.heap.size≤w.heap.size
 frame:∀k,F k→k<w0.heap.size∧w.heap[k]?=w0.heap[k]?
theorem Keep.below{w w':World}(h:Keep (fun k=>k<w.heap.size) w w'):RowKit.Below w.heap.size w w':=⟨h.os,h.tape,h.output,h.grown,fun k hk=>(h.frame k hk).2⟩
theorem Keep.refl{F:Nat→Prop}{w:World}(h:∀k,F k→k<w.heap.size):Keep F w w:=⟨rfl,rfl,rfl,Nat.le_refl _,fun k hk=>⟨h k hk,rfl⟩⟩
theorem Keep.lt{F:Nat→Prop}{w0 w:World}(h:Keep F w0 w){k:Nat}(hk:F k):k<w.heap.size:=Nat.lt_of_lt_of_le (h.frame k hk).1 h.grown
theorem Keep.step{F:Nat→Prop}{w0 w w':World}{own:Nat→Prop}(h:Keep F w0 w)(hm:∀r,own r→¬ F r)(k:C2r own w w'):Keep F w0 w' :=
 ⟨k.os.trans h.os,k.tape.trans h.tape,k.output.trans h.output,Nat.le_trans h.grown k.grown,fun x hx=>⟨(h.frame x hx).1,(k.frame x (h.lt hx) (fun ho=>hm x ho hx)).trans (h.frame x hx).2⟩⟩
def A0g(s:St):Bool:=(s.tmps.all fun a=>(names a).all fun b=>(hget s.heap b).isSome)&&(noAv s.heap&&s.heap.all fun p=>(H1z p.2).all fun b=>(hget s.heap b).isSome)
def Q0d(σ:Nat→Option Nat)(H:Hp):Nat→Option Nat:=fun b=>if (hget H b).isSome then σ b else none
theorem Q0y{σ:Nat→Option Nat}{H:Hp}{b r:Nat}(h:Q0d σ H b=some r):σ b=some r∧(hget H b).isSome:=by
 unfold Q0d at h
 split at h
 ·rename_i h1;exact ⟨h,h1⟩
 ·cases h
theorem V0k{σ:Nat→Option Nat}{H:Hp}{b:Nat}(h:(hget H b).isSome):Q0d σ H b=σ b:=by unfold Q0d;rw[if_pos h]
mutual
theorem Rel.prune{σ:Nat→Option Nat}{H:Hp}:∀(a:AV) (v:Value),(∀b∈names a,(hget H b).isSome)→Rel σ a v→Rel (Q0d σ H) a v
 | .val _,_,_,k=>by simpa only[Rel]using k
 | .ptr b _,_,hc,k=>by simp only[Rel]at k ⊢;rw[V0k (hc b (by simp[names]))];exact k
 | .slice b _ _ _,_,hc,k=>by simp only[Rel]at k ⊢;rw[V0k (hc b (by simp[names]))];exact k
 | .agg cs,_,hc,k=>by simp only[Rel]at k ⊢;obtain ⟨r,h1,h2⟩:=k;exact ⟨r,h1,Rels.prune cs _ (fun b hb=>hc b (by simpa[names]using hb)) h2⟩
 | .tuple cs,_,hc,k=>by simp only[Rel]at k ⊢;obtain ⟨r,h1,h2⟩:=k;exact ⟨r,h1,Rels.prune cs _ (fun b hb=>hc b (by simpa[names]using hb)) h2⟩
 | .func _ a b,_,hc,k=>by
  simp only[Rel]at k ⊢
  obtain ⟨x,y,h1,h2,h3⟩:=k
  exact ⟨x,y,h1,Rels.prune a _ (fun d hd=>hc d (by simp[names,hd])) h2,Rels.prune b _ (fun d hd=>hc d (by simp[names,hd])) h3⟩
 | .map b,_,hc,k=>by simp only[Rel]at k ⊢;rw[V0k (hc b (by simp[names]))];exact k
 | .any,_,_,_=>by simp only[Rel]
theorem Rels.prune{σ:Nat→Option Nat}{H:Hp}:∀(a:List AV) (v:List Value),(∀b∈E0e a,(hget H b).isSome)→Rels σ a v→Rels (Q0d σ H) a v
 | [],_,_,k=>by simpa only[Rels]using k
 | a :: as,_,hc,k=>by
  simp only[Rels]at k ⊢
  obtain ⟨x,xs,h1,h2,h3⟩:=k
  exact ⟨x,xs,h1,Rel.prune a x (fun b hb=>hc b (by simp[E0e,hb])) h2,Rels.prune as xs (fun b hb=>hc b (by simp[E0e,hb])) h3⟩
end
def A0t(F:Nat→Prop)(w0:World)(N:Nat)(s:St)(a:Act)(w:World):Prop:=∃σ,Here N s σ a w∧Keep F w0 w∧∀b r,σ b=some r→¬ F r
theorem Z1b{F:Nat→Prop}{w0:World}{N:Nat}{s:St}{σ σ':Nat→Option Nat}{u':U}{a':Act}{w w':World}(hk:Keep F w0 w)(hF:∀b r,σ b=some r→¬ F r)(hf:Fits N w (Own σ) σ' u' a' w')(hs:Sub s.u u')(hn:∀b,s.lo≤b→b<s.hi→σ' b=none)(hok:A0g s=true) :
  A0t F w0 N s a' w':=by
 have hw:=hf.sub hs
 simp only[A0g,Bool.and_eq_true,List.all_eq_true]at hok
 obtain ⟨hct,hno,hch⟩:=hok
 have hkept:C2r (Own σ) w w':=⟨hf.os,hf.tape,hf.output,hf.grown,hf.frame⟩
 have hK:Keep F w0 w':=hk.step (fun r ⟨b,hb⟩=>hF b r hb) hkept
 refine ⟨Q0d σ' s.heap,⟨⟨s.u,?_,fun l c h=>h⟩,fun b h1 h2=>?_⟩,hK,fun b r hb=>?_⟩
 ·refine {hw with tmp:=fun t v hv=>?_,row:=fun b e cs hb=>?_,obj:=fun b o hb=>?_,inj:=fun b b' r h1 h2=>hw.inj b b' r (Q0y h1).1 (Q0y h2).1,bound:=fun b r hb=>hw.bound b r (Q0y hb).1,ownsR:=fun b _ _ _ _ hr=>.inl ⟨b,hr⟩,ownsO:=fun b _ _ _ hr=>.inl ⟨b,hr⟩,os:=rfl,tape:=rfl,output:=rfl,grown:=Nat.le_refl _,frame:=fun _ _ _=>rfl}
  ·obtain ⟨x,h3,h4⟩:=hw.tmp t v hv
   simp only[St.u,stU,Option.map_eq_some_iff]at hv
   obtain ⟨y,hy,e⟩:=hv
   cases e
   exact ⟨x,h3,Rel.prune v x (fun b hb=>hct v (List.mem_of_getElem? hy) b hb) h4⟩
  ·obtain ⟨r,vs,h3,h4,h5⟩:=hw.row b e cs hb
   have hm:hget s.heap b=some (.row e cs):=hb
   refine ⟨r,vs,by rw[V0k (by rw[hm];rfl)];exact h3,h4,Rels.prune cs vs (fun d hd=>?_) h5⟩
   have hmem:∀(L:Hp),hget L b=some (.row e cs)→(b,Con.row e cs)∈L:=by
    intro L
    induction L with
    | nil=>intro h;simp[hget]at h
    | cons p L ih =>
     intro h
     obtain ⟨b',c'⟩:=p
     simp only[hget]at h
     split at h
     ·rename_i e'
      cases h
      rw[Nat.eq_of_beq_eq_true e']
      simp
     ·exact List.mem_cons_of_mem _ (ih h)
   exact hch _ (hmem _ hm) d hd
  ·obtain ⟨r,o',h3,h4,h5⟩:=hw.obj b o hb
   have hm:hget s.heap b=some (.obj o):=hb
   exact ⟨r,o',by rw[V0k (by rw[hm];rfl)];exact h3,h4,h5⟩
 ·unfold Q0d
  split
  ·exact hn b h1 h2
  ·rfl
 ·obtain ⟨h1,h2⟩:=Q0y hb
  have key:Own σ r∨w.heap.size≤r:=by
   obtain ⟨c,hc⟩:=Option.isSome_iff_exists.1 h2
   cases c with
   | row e cs=>exact hw.ownsR b e cs r hc h1
   | obj o=>exact hw.ownsO b o r hc h1
   | av v=>exact absurd hc (M0t hno b v)
  rcases key with ⟨b',hb'⟩ | h3
  ·exact hF b' r hb'
  ·intro hFr
   have :=hk.lt hFr
   omega
theorem A0b.stand{P:Program}{N:Nat}{c:Code}{s s':St}{e:Ex}(h:A0b P N c s e s')(hok:A0g s'=true){F:Nat→Prop}{w0:World}{a:Act}{w:World}(hh:A0t F w0 N s a w){Q:Exit→Act→World→Prop}
  (hQ:∀a' w',A0t F w0 N s' a' w'→Q e.to a' w'):c.wp P Q a w:=by
 obtain ⟨σ,⟨⟨u,hf,hs⟩,hn⟩,hk,hF⟩:=hh
 refine h w (Own σ) σ s.lo s.hi a w ⟨σ,u,hf,hs,hn,Le.refl σ,fun b hb _=>hb,Nat.le_refl _,Nat.le_refl _⟩ Q fun a' w' hst=>?_
 obtain ⟨σ',u',hf',hs',hn',_,_,_,_⟩:=hst
 exact hQ a' w' (Z1b hk hF hf' hs' hn' hok)
theorem A0t.start{N:Nat}(vals:List Value)(w:World)(lo hi step:Nat)(hN:vals.length≤N) :
  A0t (fun k=>k<w.heap.size) w N ⟨vals.map .val++List.replicate (N-vals.length) (.val undef),[],lo,hi,step,[]⟩ {tmps:=List.toArray vals++Array.replicate (N-(List.toArray vals).size) undef,defers:=[]} w :=
 ⟨_,Here.start vals w lo hi step hN,Keep.refl fun _ h=>h,fun _ _ h=>by cases h⟩
theorem A0t.results{P:Program}{fn:Func}{F:Nat→Prop}{w0:World}{N:Nat}{s:St}{a:Act}{w:World}(h:A0t F w0 N s a w){v:Value}(hr:resA P s fn.results.toList=some [.val v]) :
  (Go.results fn a.tmps).run P w=.ok v w∧a.defers=[]∧Keep F w0 w:=by
 obtain ⟨σ,h1,h2,_⟩:=h
 obtain ⟨x,h3,h4,h5⟩:=h1.results hr
 simp only[pack,Rel]at h4
 subst h4
 exact ⟨h3,h5,h2⟩
theorem A0t.weak{F:Nat→Prop}{w0:World}{N:Nat}{s s':St}{a:Act}{w:World}(h:A0t F w0 N s a w)(hw:Wk s'.u s.u)(hlo:s.lo≤s'.lo)(hhi:s'.hi≤s.hi):A0t F w0 N s' a w:=by
 obtain ⟨σ,⟨⟨u,hf,hs⟩,hn⟩,hk,hF⟩:=h
 exact ⟨σ,⟨⟨s'.u,(hf.sub hs).weak hw,Sub.refl _⟩,fun b h1 h2=>hn b (by omega) (by omega)⟩,hk,hF⟩
section
variable {P:Program} {N:Nat} {ops:Array Oper} {Q:Exit→Act→World→Prop} {w0:World} {own:Nat→Prop}
theorem W0e:∀(items:List It) (rest:List Nat) (u u':U) (σ:Nat→Option Nat) (a:Act) (w:World),E0c P N ops items u u'→Fits N w0 own σ u a w→R1k items σ→items.Pairwise R1h →
  (∀σ' a' w',Le σ σ'→Out items σ σ'→Fits N w0 own σ' u' a' w'→wpOps P ops Q rest a' w')→wpOps P ops Q (items.map (·.i)++rest) a w
 | [],rest,u,u',σ,a,w,hc,hf,_,_,hQ=>by
  simp only[E0c]at hc
  subst hc
  exact hQ σ a w (Le.refl σ) (fun _ h _=>h) hf
 | it :: r,rest,u,u',σ,a,w,hc,hf,hn,hp,hQ=>by
  obtain ⟨h1,h2,h3⟩:=hc
  simp only[List.map_cons,List.cons_append,wpOps_cons]
  rw[List.pairwise_cons]at hp
  refine h2 Q w0 own σ u a w hf h1 (hn it (List.mem_cons_self ..)) _ fun σ' a' w' hle hout hf'=>?_
  refine W0e r rest _ u' σ' a' w' h3 hf' (fun x hx b hb1 hb2=>?_) hp.2 fun σ'' a'' w'' hle' hout' hf''=>?_
  ·refine hout b (hn x (List.mem_cons_of_mem _ hx) b hb1 hb2) ?_
   rcases hp.1 x hx with h | h<;>omega
  ·refine hQ σ'' a'' w'' (hle.trans hle') (fun b hb hb'=>?_) hf''
   exact hout' b (hout b hb (hb' it (List.mem_cons_self ..))) fun x hx=>hb' x (List.mem_cons_of_mem _ hx)
theorem Q1b{β:Type}{call:R0c β}{qf:FuncId→Bool}(hcall:D0t P call){l:List Oper}{k:Nat}{s:St}{K:St→List Foot→Option β}{res:β}(h:B0j P call qf N ops l s [] K=some res)(hl:∀j o,l[j]?=some o→ops[k+j]?=some o)
  {F:Nat→Prop} {w0:World} {a:Act} {w:World} (hh:A0t F w0 N s a w) (rest:List Nat) {s1:St} (hok:A0g s1=true) (hroom:∀s' feet,K s' feet=some res→(s'.lo≤s'.hi∨s'.lo=s.lo)∧Wk s1.u s'.u∧s'.lo≤s1.lo∧s1.hi≤s'.hi)
  (hK:∀a' w',A0t F w0 N s1 a' w'→wpOps P ops Q rest a' w'):wpOps P ops Q ((List.range l.length).map (k+·)++rest) a w:=by
 obtain ⟨items,s',h1,h2,h3,h4,h5,h6,_,_⟩:=J0j hcall l k s [] h hl
 obtain ⟨σ,⟨⟨u,hf,hs⟩,hn⟩,hk,hF⟩:=hh
 obtain ⟨u',hc,hs'⟩:=h2 u hs
 have hb:=h5.bounds
 obtain ⟨hrm,hwk,hlo,hhi⟩:=hroom s' _ h1
 have hix:items.map (·.i)=(List.range l.length).map (k+·):=by
  apply List.ext_getElem
  ·simp[h3]
  ·intro j hj1 hj2
   simp only[List.getElem_map,List.getElem_range]
   exact h4 j _ (List.getElem?_eq_getElem (by simpa using hj1))
 rw[← hix]
 have hfresh:R1k items σ:=by
  intro it hit b hb1 hb2
  have :=hb.2 it hit
  exact hn b (by omega) (by omega)
 refine W0e items rest u u' σ a w hc hf hfresh h5.apart fun σ' a' w' hle hout hf'=>?_
 refine hK a' w' (Z1b hk hF ((hf'.sub hs').weak hwk) (Sub.refl _) (fun b hb1 hb2=>?_) hok)
 refine hout b (hn b (by omega) (by omega)) fun it hit=>?_
 have :=hb.2 it hit
 omega
theorem V0d{k d:Nat}{o:Oper}(ho:ops[k]?=some o)(hg:o.guard=none)(hd:o.dst=some d)(hdN:d<N){s:St}(hlen:s.tmps.length=N){F:Nat→Prop}{w0:World}{a:Act}{w:World}(hh:A0t F w0 N s a w){v:Value}
  (hrun:(execOp a.eval o).run P w=.ok (.value v) w) (rest:List Nat) (hK:∀a',A0t F w0 N {s with tmps:=s.tmps.set d (.val v)} a' w→wpOps P ops Q rest a' w):wpOps P ops Q (k :: rest) a w:=by
 rw[wpOps_cons]
 unfold wpOp
 rw[ho]
 simp only
 rw[if_pos (by simp[Region.wanted,hg])]
 refine .inl ?_
 unfold Oper.wp
 rw[hrun,Oper.upon_value,hd]
 refine hK _ ?_
 obtain ⟨σ,⟨⟨u,hf,hs⟩,hn⟩,hk,hF⟩:=hh
 refine ⟨σ,⟨⟨upd1 u (.tmp d) (.av (.val v)),hf.put hdN (by simp only[Rel]),fun l c h=>?_⟩,hn⟩,hk,hF⟩
 cases l with
 | blk b=>simpa[upd1]using hs (.blk b) c h
 | tmp t =>
  by_cases e:t=d
  ·subst e
   simp only[St.u,stU,List.getElem?_set_self (by omega:t<s.tmps.length),Option.map_some,Option.some.injEq]at h
   subst h
   simp[upd1]
  ·simp only[St.u,stU,List.getElem?_set_ne (Ne.symm e)]at h
   have:upd1 u (.tmp d) (.av (.val v)) (.tmp t)=u (.tmp t):=by simp[upd1,e]
   rw[this]
   exact hs _ _ h
end
theorem A0t.eval{F:Nat→Prop}{w0:World}{N:Nat}{s:St}{a:Act}{w:World}(h:A0t F w0 N s a w){t:Nat}{v:Value}(ht:s.tmps[t]?=some (.val v)):a.eval (.tmp t)=v:=by
 obtain ⟨σ,h1,_⟩:=h
 obtain ⟨x,h1,h2⟩:=h1.tmp ht
 simp only[Rel]at h2
 subst h2
 simp[Act.eval,h1]
theorem A0t.keep{F:Nat→Prop}{w0:World}{N:Nat}{s:St}{a:Act}{w:World}(h:A0t F w0 N s a w):Keep F w0 w:=by obtain ⟨_,_,h,_⟩:=h;exact h
theorem Q0m{P:Program}{w:World}{a:Addr}:∀(n i:Nat) (cs:List Value) (acc:Array Value),cs.length=n→(∀j c,cs[j]?=some c→w.cell? (a.add (i+j))=some c)→(loadCellsFrom a i n acc).run P w=.ok (acc++List.toArray cs) w
 | 0,i,cs,acc,hl,_=>by
  cases cs with
  | nil=>simp[loadCellsFrom]
  | cons c r=>simp at hl
 | n+1,i,[],acc,hl,_=>by simp at hl
 | n+1,i,c :: r,acc,hl,hc=>by
  have h0:w.cell? (a.add i)=some c:=by simpa using hc 0 c rfl
  have ih:=Q0m (P:=P) (w:=w) (a:=a) n (i+1) r (acc.push c) (by simpa using hl) fun j d hj=>by
   have :=hc (j+1) d (by simpa using hj)
   rwa [show i+(j+1)=i+1+j by omega]at this
  simp only[loadCellsFrom,Sem.run_bind,run_load,h0,Result.andThen_ok,ih]
  simp
end Go.Ab
namespace Go.Ab
def C0w(lo hi b:Nat):Prop:=¬ (lo≤b∧b<hi)
def cutσ(σ:Nat→Option Nat)(lo hi:Nat):Nat→Option Nat:=fun b=>if lo≤b∧b<hi then none else σ b
theorem A0x{σ:Nat→Option Nat}{lo hi b r:Nat}(h:cutσ σ lo hi b=some r):σ b=some r:=by
 unfold cutσ at h
 split at h
 ·cases h
 ·exact h
theorem B0k{σ:Nat→Option Nat}{lo hi b:Nat}(h:C0w lo hi b):cutσ σ lo hi b=σ b:=by
 unfold cutσ
 rw[if_neg h]
mutual
theorem Rel.cut{σ:Nat→Option Nat}{lo hi:Nat}:∀(a:AV) (v:Value),(∀b∈names a,C0w lo hi b)→Rel σ a v→Rel (cutσ σ lo hi) a v
 | .val _,_,_,k=>by simpa only[Rel]using k
 | .ptr b _,_,hc,k=>by simp only[Rel]at k ⊢;rw[B0k (hc b (by simp[names]))];exact k
 | .slice b _ _ _,_,hc,k=>by simp only[Rel]at k ⊢;rw[B0k (hc b (by simp[names]))];exact k
 | .agg cs,_,hc,k=>by simp only[Rel]at k ⊢;obtain ⟨r,h1,h2⟩:=k;exact ⟨r,h1,Rels.cut cs _ (fun b hb=>hc b (by simpa[names]using hb)) h2⟩
 | .tuple cs,_,hc,k=>by simp only[Rel]at k ⊢;obtain ⟨r,h1,h2⟩:=k;exact ⟨r,h1,Rels.cut cs _ (fun b hb=>hc b (by simpa[names]using hb)) h2⟩
 | .func _ a b,_,hc,k=>by
  simp only[Rel]at k ⊢
  obtain ⟨x,y,h1,h2,h3⟩:=k
  exact ⟨x,y,h1,Rels.cut a _ (fun d hd=>hc d (by simp[names,hd])) h2,Rels.cut b _ (fun d hd=>hc d (by simp[names,hd])) h3⟩
 | .map b,_,hc,k=>by simp only[Rel]at k ⊢;rw[B0k (hc b (by simp[names]))];exact k
 | .any,_,_,_=>by simp only[Rel]
theorem Rels.cut{σ:Nat→Option Nat}{lo hi:Nat}:∀(a:List AV) (v:List Value),(∀b∈E0e a,C0w lo hi b)→Rels σ a v→Rels (cutσ σ lo hi) a v
 | [],_,_,k=>by simpa only[Rels]using k
 | a :: as,_,hc,k=>by
  simp only[Rels]at k ⊢
  obtain ⟨x,xs,h1,h2,h3⟩:=k
  exact ⟨x,xs,h1,Rel.cut a x (fun b hb=>hc b (by simp[E0e,hb])) h2,Rels.cut as xs (fun b hb=>hc b (by simp[E0e,hb])) h3⟩
end
def gcSt(lo:Nat)(keep:List Nat)(s:St):St:={s with heap:=C0u s.heap keep,lo:=lo}
def M1h(lo hi:Nat):Con→Prop
 | .av a=>∀b∈names a,C0w lo hi b
 | .row _ cs=>∀b∈E0e cs,C0w lo hi b
 | .obj _=>True
theorem V2u(lo:Nat)(keep:List Nat)(s:St):Sub (gcSt lo keep s).u s.u:=by
 intro l c h
 cases l with
 | blk b=>exact G0z (l:=keep) h
 | tmp t=>exact h
theorem Q3r{P:Program}{call:Y0r}(hcall:∀β,D0t P (call β)){N F:Nat}{wy:Way}{c:Code}{s s2:St}{e:Ex}(G keep:List Nat)
  (h:run P call N wy [] F (Ex×St) c s (fun e s'=>some (e,gcSt s.lo keep (G0c G s')))=some (e,s2)) (hhi:s2.hi=s.hi)
  (hblk:∀b c,s2.u (.blk b)=some c→C0w s.lo s.hi b)
  (hclean:∀σ,(∀t v,s.u (.tmp t)=some (.av v)→∃x,Rel σ v x)→(∀b,s.lo≤b→b<s.hi→σ b=none)→∀l c,s2.u l=some c→M1h s.lo s.hi c):A0b P N c s e s2:=by
 obtain ⟨e',s',h1,h2,_⟩:=(Q0n hcall F).1 (Ex×St) (e,s2) c s _ (HFit.nil c) h
 simp only[Option.some.injEq,Prod.mk.injEq]at h1
 obtain ⟨rfl,rfl⟩:=h1
 intro w0 own σ0 lo0 hi0 a w hst Q hQ
 refine h2 w0 own σ0 lo0 hi0 a w hst Q fun a' w' hst'=>hQ a' w' ?_
 obtain ⟨σs,us,hfs,hss,hns,hls,hos,hlos,his⟩:=hst
 obtain ⟨σ,u,hf,hs,hn,hl,ho,hlo,hi⟩:=hst'
 have hcl:=hclean σs (fun t v hv=>by obtain ⟨x,_,h4⟩:=hfs.tmp t v (hss _ _ hv);exact ⟨x,h4⟩) hns
 have hw:Fits N w0 own σ (gcSt s.lo keep (G0c G s')).u a' w':=((hf.sub hs).weak (A1z G s')).sub (V2u s.lo keep (G0c G s'))
 have hnone:∀b,s.lo≤b→b<s.hi→σ0 b=none:=by
  intro b hb1 hb2
  cases h0:σ0 b with
  | none=>rfl
  | some r=>have :=hls b r h0;rw[hns b hb1 hb2]at this;cases this
 refine ⟨cutσ σ s.lo s.hi,(gcSt s.lo keep (G0c G s')).u,?_,Sub.refl _,fun b hb1 hb2=>?_,fun b r hb=>?_,fun b hb1 hb2=>?_,hlos,?_⟩
 ·refine {hw with tmp:=fun t v hv=>?_,row:=fun b e cs hb=>?_,obj:=fun b o hb=>?_,inj:=fun b b' r h1 h2=>hw.inj b b' r (A0x h1) (A0x h2),bound:=fun b r hb=>hw.bound b r (A0x hb),ownsR:=fun b e cs r hb hr=>hw.ownsR b e cs r hb (A0x hr),ownsO:=fun b o r hb hr=>hw.ownsO b o r hb (A0x hr)}
  ·obtain ⟨x,h3,h4⟩:=hw.tmp t v hv
   exact ⟨x,h3,Rel.cut v x (hcl _ _ hv) h4⟩
  ·obtain ⟨r,vs,h3,h4,h5⟩:=hw.row b e cs hb
   exact ⟨r,vs,by rw[B0k (hblk b _ hb)];exact h3,h4,Rels.cut cs vs (hcl _ _ hb) h5⟩
  ·obtain ⟨r,o',h3,h4,h5⟩:=hw.obj b o hb
   exact ⟨r,o',by rw[B0k (hblk b _ hb)];exact h3,h4,h5⟩
 ·have hb2:b<s.hi:=by rw[← hhi];exact hb2
  unfold cutσ
  rw[if_pos ⟨hb1,hb2⟩]
 ·have hc:C0w s.lo s.hi b:=fun hc=>by rw[hnone b hc.1 hc.2]at hb;cases hb
  rw[B0k hc]
  exact hl b r hb
 ·have :=ho b hb1 hb2
  unfold cutσ
  split
  ·rfl
  ·exact this
 ·exact hi
end Go.Ab
namespace Go.Ab
open Go
def A0p(lo:Nat)(s:St):Bool:=(s.tmps.all fun a=>(names a).all fun b=>Nat.blt b lo)&&s.heap.all fun p=>Nat.blt p.1 lo&&(H1z p.2).all fun b=>Nat.blt b lo
theorem H0c:∀{H:Hp} {b:Nat} {c:Con},hget H b=some c→(b,c)∈H
 | [],b,c,h=>by simp[hget]at h
 | (b',c') :: r,b,c,h=>by
  simp only[hget]at h
  split at h
  ·rename_i e
   cases h
   rw[Nat.eq_of_beq_eq_true e]
   simp
  ·exact List.mem_cons_of_mem _ (H0c h)
theorem A0t.cut{F:Nat→Prop}{w0:World}{N:Nat}{s:St}{a:Act}{w:World}(h:A0t F w0 N s a w){lo hi:Nat}(hc:A0p lo s=true):A0t F w0 N {s with lo:=lo,hi:=hi} a w:=by
 obtain ⟨σ,⟨⟨u,hf,hs⟩,hn⟩,hk,hF⟩:=h
 have hw:=hf.sub hs
 simp only[A0p,Bool.and_eq_true,List.all_eq_true,Nat.blt_eq]at hc
 obtain ⟨hct,hch⟩:=hc
 have hcl:∀l c,s.u l=some c→M1h lo hi c:=by
  intro l c hl
  cases l with
  | tmp t =>
   simp only[St.u,stU,Option.map_eq_some_iff]at hl
   obtain ⟨x,hx,rfl⟩:=hl
   intro b hb
   have :=hct x (List.mem_of_getElem? hx) b hb
   unfold C0w
   omega
  | blk b =>
   have hm:=H0c (H:=s.heap) hl
   have :=(hch _ hm).2
   cases c with
   | av x=>intro d hd;have :=this d hd;unfold C0w;omega
   | row e cs=>intro d hd;have :=this d hd;unfold C0w;omega
   | obj o=>trivial
 have hbl:∀b c,s.u (.blk b)=some c→C0w lo hi b:=by
  intro b c hl
  have hm:=H0c (H:=s.heap) hl
  have :=(hch _ hm).1
  unfold C0w
  omega
 refine ⟨cutσ σ lo hi,⟨⟨s.u,?_,fun l c h=>h⟩,fun b hb1 hb2=>?_⟩,hk,fun b r hb=>hF b r (A0x hb)⟩
 ·refine {hw with tmp:=fun t v hv=>?_,row:=fun b e cs hb=>?_,obj:=fun b o hb=>?_,inj:=fun b b' r h1 h2=>hw.inj b b' r (A0x h1) (A0x h2),bound:=fun b r hb=>hw.bound b r (A0x hb),ownsR:=fun b _ _ _ _ hr=>.inl ⟨b,hr⟩,ownsO:=fun b _ _ _ hr=>.inl ⟨b,hr⟩,os:=rfl,tape:=rfl,output:=rfl,grown:=Nat.le_refl _,frame:=fun _ _ _=>rfl}
  ·obtain ⟨x,h3,h4⟩:=hw.tmp t v hv
   exact ⟨x,h3,Rel.cut v x (hcl _ _ hv) h4⟩
  ·obtain ⟨r,vs,h3,h4,h5⟩:=hw.row b e cs hb
   exact ⟨r,vs,by rw[B0k (hbl b _ hb)];exact h3,h4,Rels.cut cs vs (hcl _ _ hb) h5⟩
  ·obtain ⟨r,o',h3,h4,h5⟩:=hw.obj b o hb
   exact ⟨r,o',by rw[B0k (hbl b _ hb)];exact h3,h4,h5⟩
 ·unfold cutσ
  rw[if_pos ⟨hb1,hb2⟩]
def G0k(keep:List Nat)(G:List Nat)(s:St):St:={G0c G s with heap:=C0u s.heap keep}
theorem Sub.wk{u' u:U}(h:Sub u' u):Wk u' u:=fun l c hc=>⟨c,h l c hc,WkC.refl c⟩
theorem Wk.trans{a b c:U}(h:Wk a b)(k:Wk b c):Wk a c:=by
 intro l x hx
 obtain ⟨y,h1,h2⟩:=h l x hx
 obtain ⟨z,h3,h4⟩:=k l y h1
 refine ⟨z,h3,?_⟩
 cases x with
 | av x =>
  cases y with
  | av y =>
   cases z with
   | av z=>exact fun σ v hv=>h2 σ v (h4 σ v hv)
   | row _ _=>exact h4.elim
   | obj _=>exact h4.elim
  | row _ _=>exact h2.elim
  | obj _=>exact h2.elim
 | row e cs =>
  cases y with
  | av y=>exact h2.elim
  | row e' cs' =>
   cases z with
   | av z=>exact h4.elim
   | row e'' cs''=>exact ⟨h4.1.trans h2.1,fun σ vs hv=>h2.2 σ vs (h4.2 σ vs hv)⟩
   | obj _=>exact h4.elim
  | obj _=>exact h2.elim
 | obj o =>
  cases y with
  | av y=>exact h2.elim
  | row _ _=>exact h2.elim
  | obj o' =>
   cases z with
   | av z=>exact h4.elim
   | row _ _=>exact h4.elim
   | obj o'' =>
    have h2:o'=o:=h2
    have h4:o''=o':=h4
    show o''=o
    rw[h4,h2]
theorem C0e(keep G:List Nat)(s:St):Wk (G0k keep G s).u s.u:=by
 refine Wk.trans (b:=(G0c G s).u) (Sub.wk fun l c h=>?_) (A1z G s)
 cases l with
 | blk b=>exact G0z (l:=keep) h
 | tmp t=>exact h
theorem A0e{P:Program}{N:Nat}{call:Y0r}(hcall:∀β,D0t P (call β)){wy:Way}{F:Nat}{c:Code}{s s1:St}{e:Ex}(keep G:List Nat)
  (h:run P call N wy [] F (Ex×St) c s (fun e s'=>some (e,G0k keep G s'))=some (e,s1)):A0b P N c s e s1:=by
 obtain ⟨e',s',h1,h2,_⟩:=(Q0n hcall F).1 (Ex×St) (e,s1) c s _ (HFit.nil c) h
 simp only[Option.some.injEq,Prod.mk.injEq]at h1
 obtain ⟨rfl,rfl⟩:=h1
 exact h2.weak_end (C0e keep G s') (Nat.le_refl _) (Nat.le_refl _)
def C0p(keep G:List Nat):St→List Foot→Option (Bool×St):=fun s _=>U0r s.lo fun lo=>U0r s.hi fun hi=>some (Nat.ble lo hi,G0k keep G s)
theorem D0p{P:Program}{N:Nat}{ops:Array Oper}{Q:Exit→Act→World→Prop}{call:R0c (Bool×St)}{qf:FuncId→Bool}(hcall:D0t P call){l:List Oper}{k:Nat}{s s1:St}(keep G:List Nat)(h:B0j P call qf N ops l s [] (C0p keep G)=some (true,s1))
  (hl:∀j o,l[j]?=some o→ops[k+j]?=some o) (hok:A0g s1=true) {F:Nat→Prop} {w0:World} {a:Act} {w:World} (hh:A0t F w0 N s a w) (rest:List Nat) (hK:∀a' w',A0t F w0 N s1 a' w'→wpOps P ops Q rest a' w'):wpOps P ops Q ((List.range l.length).map (k+·)++rest) a w:=by
 refine Q1b hcall h hl hh rest hok (fun s' feet he=>?_) hK
 simp only[C0p,K0p,Option.some.injEq,Prod.mk.injEq]at he
 rw[← he.2]
 exact ⟨.inl (Nat.le_of_ble_eq_true he.1),C0e keep G s',Nat.le_refl _,Nat.le_refl _⟩
variable {P:Program} {N:Nat}
theorem A0b.seq{c d:Code}{s s1 s2:St}{e:Ex}(h:A0b P N c s .normal s1)(k:A0b P N d s1 e s2):A0b P N (.seq c d) s e s2 :=
 fun w0 own σ0 lo0 hi0 a w hst Q hQ=>wp_seq (h w0 own σ0 lo0 hi0 a w hst _ fun a' w' hst'=>k w0 own σ0 lo0 hi0 a' w' hst' Q hQ)
theorem A0b.seqR{c d:Code}{s s1:St}(h:A0b P N c s .ret s1):A0b P N (.seq c d) s .ret s1 :=
 fun w0 own σ0 lo0 hi0 a w hst _ hQ=>wp_seq (h w0 own σ0 lo0 hi0 a w hst _ fun a' w' hst'=>hQ a' w' hst')
theorem A0b.seqX{c d:Code}{s s1:St}{id:Nat}(h:A0b P N c s (.exit id) s1):A0b P N (.seq c d) s (.exit id) s1 :=
 fun w0 own σ0 lo0 hi0 a w hst _ hQ=>wp_seq (h w0 own σ0 lo0 hi0 a w hst _ fun a' w' hst'=>hQ a' w' hst')
def A0k{τ:Type}(F:Nat→τ→τ):Nat→Nat→τ→τ
 | _,0,z=>z
 | i,k+1,z=>A0k F (i+1) k (F i z)
theorem A0b.rounds{τ:Type}{c:Code}{id:Nat}(n:Nat)(I:Nat→τ→St)(E:τ→St)(F:Nat→τ→τ)(h:∀i z,i<n→A0b P N c (I i z) .normal (I (i+1) (F i z)))(hE:∀z,A0b P N c (I n z) (.exit id) (E z))(z:τ) :
  A0b P N (.block id (.loop c)) (I 0 z) .normal (E (A0k F 0 n z)):=by
 let ι:={p:Nat×τ // p.1≤n}
 have hl:=A0b.loop (P:=P) (N:=N) (c:=c) (ι:=ι) (fun i=>I i.1.1 i.1.2) (fun i=>n-i.1.1) (fun i=>E (A0k F i.1.1 (n-i.1.1) i.1.2)) (.exit id) (by
  rintro ⟨⟨i,z⟩,hi⟩
  dsimp only at hi ⊢
  by_cases hlt:i<n
  ·refine .inl ⟨⟨(i+1,F i z),by dsimp only;omega⟩,by dsimp only;omega,?_,h i z hlt⟩
   dsimp only
   rw[show n-i=n-(i+1)+1 by omega]
   rfl
  ·have:i=n:=by omega
   subst this
   refine .inr ⟨?_,by simp⟩
   rw[Nat.sub_self]
   exact hE z) ⟨(0,z),Nat.zero_le n⟩
 exact A0b.block hl (.inr rfl)
theorem A0b.facts{f:FuncId}{fn:Func}{c:Code}(hfn:P.funcs[f]?=some fn)(hbody:fn.body=some c){args:List AV}{H:Hp}{lo hi step:Nat}(hle:args.length≤fn.ntmps){s':St}{e:Ex}(he:e=.normal∨e=.ret)
  (h2:A0b P fn.ntmps c ⟨args++List.replicate (fn.ntmps-args.length) (.val undef),H,lo,hi,step,[]⟩ e s') {l:List AV} (hl:resA P s' fn.results.toList=some l) (H':Hp) (hH':∀b c,hget H' b=some c→hget s'.heap b=some c) (hnoav:noAv H'=true) :
  CallFacts P f args H lo hi (pack l) H':=by
 intro σ vals w hinj hbd hvals hH hn
 have hlen:=Rels.length hvals
 refine calls_of_wp hfn hbody ?_
 let own:Nat→Prop:=fun k=>∃b c,hget H b=some c∧σ b=some k
 have hargsR:Rels σ (args++List.replicate (fn.ntmps-args.length) (.val undef)) (vals++List.replicate (fn.ntmps-args.length) undef):=Rels.append hvals (Rels.undefs σ _)
 have hst:A0j fn.ntmps w own σ lo hi ⟨args++List.replicate (fn.ntmps-args.length) (.val undef),H,lo,hi,step,[]⟩
   {tmps:=List.toArray vals++Array.replicate (fn.ntmps-(List.toArray vals).size) undef,defers:=[]} w:=by
  refine ⟨σ,stU (args++List.replicate (fn.ntmps-args.length) (.val undef)) H,⟨rfl,?_,fun t v hv=>?_,fun b e cs hb=>hH b _ hb,fun b o hb=>hH b _ hb,hinj,hbd,fun b e cs r hb hs=>.inl ⟨b,_,hb,hs⟩,fun b o r hb hs=>.inl ⟨b,_,hb,hs⟩,rfl,rfl,rfl,Nat.le_refl _,fun _ _ _=>rfl⟩,Sub.refl _,hn,Le.refl σ,fun _ h _=>h,Nat.le_refl _,Nat.le_refl _⟩
  ·simp;omega
  ·simp only[stU,Option.map_eq_some_iff,Con.av.injEq]at hv
   obtain ⟨x,hx,rfl⟩:=hv
   obtain ⟨y,hy,hrel⟩:=Rels.get hargsR hx
   refine ⟨y,?_,hrel⟩
   rw[← hy]
   have:(List.toArray vals++Array.replicate (fn.ntmps-(List.toArray vals).size) undef)=List.toArray (vals++List.replicate (fn.ntmps-args.length) undef):=by
    apply Array.toList_inj.1;simp[hlen]
   simp only[this,List.getElem?_toArray]
 refine h2 w own σ lo hi _ w hst _ fun a' w' hst'=>?_
 obtain ⟨σ',u',hf',hs',hn',hle',hout',_,_⟩:=hst'
 obtain ⟨v,hv,hrel⟩:=N0k (P:=P) (fn:=fn) hf' hs' hl
 have hnew:∀b c,hget H' b=some c→(∃c',hget H b=some c')∨∀r,σ' b=some r→w.heap.size≤r:=by
  intro b c hb
  have hu:u' (.blk b)=some c:=hs' _ _ (hH' b c hb)
  cases c with
  | av x=>exact absurd hb (M0t hnoav b x)
  | row e2 cs2 =>
   obtain ⟨r,vs2,k1,_⟩:=hf'.row b e2 cs2 hu
   rcases hf'.ownsR b e2 cs2 r hu k1 with ⟨b0,c0,h3,h4⟩ | h3
   ·have :=hf'.inj _ _ _ k1 (hle' _ _ h4)
    subst this
    exact .inl ⟨c0,h3⟩
   ·exact .inr fun r' hr'=>by rw[k1]at hr';cases hr';exact h3
  | obj o2 =>
   obtain ⟨r,_,k1,_⟩:=hf'.obj b o2 hu
   rcases hf'.ownsO b o2 r hu k1 with ⟨b0,c0,h3,h4⟩ | h3
   ·have :=hf'.inj _ _ _ k1 (hle' _ _ h4)
    subst this
    exact .inl ⟨c0,h3⟩
   ·exact .inr fun r' hr'=>by rw[k1]at hr';cases hr';exact h3
 have hHF:Y0u σ' H' w':=by
  intro b c hb
  have hu:u' (.blk b)=some c:=hs' _ _ (hH' b c hb)
  cases c with
  | av x=>trivial
  | row e2 cs2=>exact hf'.row b e2 cs2 hu
  | obj o2=>exact hf'.obj b o2 hu
 rcases he with rfl | rfl
 ·exact bodyPost_end hv hf'.defers ⟨σ',v,rfl,hle',hout',hrel,hHF,hf'.inj,hf'.bound,hnew,hf'.os,hf'.tape,hf'.output,hf'.grown,fun k hk hk2=>hf'.frame k hk fun ⟨b,c,h3,h4⟩=>hk2 b c h3 h4⟩
 ·exact bodyPost_ret hv hf'.defers ⟨σ',v,rfl,hle',hout',hrel,hHF,hf'.inj,hf'.bound,hnew,hf'.os,hf'.tape,hf'.output,hf'.grown,fun k hk hk2=>hf'.frame k hk fun ⟨b,c,h3,h4⟩=>hk2 b c h3 h4⟩
theorem N1c{f:FuncId}{args:List AV}{cs cs':List Con}{r:AV}{lo hi:Nat}(hn:cs.length≤lo)(hl:cs'.length=cs.length)(ha:renL (upTo cs.length) args=some args)(hc:J0x (upTo cs.length) cs=some cs)(hr:renO (upTo cs.length) r=some r)(hc':J0x (upTo cs.length) cs'=some cs')
  (hf:CallFacts P f args (numH 0 cs) lo hi r (numH 0 cs')):CallFacts P f args (numH 0 cs) 0 0 r (numH 0 cs'):=by
 intro σ vals w hinj hbd hvals hH _
 let σr:Nat→Option Nat:=fun b=>if b<cs.length then σ b else none
 have hσr:∀b r,σr b=some r→b<cs.length∧σ b=some r:=by
  intro b r hb
  simp only[σr]at hb
  split at hb
  ·rename_i h;exact ⟨h,hb⟩
  ·cases hb
 have t1:Ties (upTo cs.length) σ σr:=by
  intro b b' hb r hr
  obtain ⟨h1,rfl⟩:=Q0r hb
  simp only[σr,if_pos h1];exact hr
 have hHr:Y0u σr (numH 0 cs) w:=by
  intro b c hb
  rw[A0w,if_pos (Nat.zero_le _),Nat.sub_zero]at hb
  obtain ⟨c0,h1,h2⟩:=G0p hc hb
  have hlt:=(List.getElem?_eq_some_iff.1 h1).1
  have hfit:=hH b c0 (by rw[A0w,if_pos (Nat.zero_le _),Nat.sub_zero];exact h1)
  cases c0 with
  | av a=>simp[renC]at h2
  | row e cc =>
   obtain ⟨r0,vs,h5,h6⟩:=hfit
   exact C0g t1 h2 h5 (by simp only[σr,if_pos hlt];exact h5) ⟨r0,vs,h5,h6⟩
  | obj o =>
   obtain ⟨r0,o',h5,h6⟩:=hfit
   exact C0g t1 h2 h5 (by simp only[σr,if_pos hlt];exact h5) ⟨r0,o',h5,h6⟩
 refine Calls.mono (hf σr vals w (fun b b' r h1 h2=>hinj _ _ _ (hσr _ _ h1).2 (hσr _ _ h2).2) (fun b r h1=>hbd _ _ (hσr _ _ h1).2) (J0a t1 _ _ _ ha hvals) hHr (fun b h1 h2=>by simp only[σr];rw[if_neg (by omega)])) fun e w' he=>?_
 obtain ⟨σ',v,rfl,p1,p2,p3,p4,p5,p6,p7,p8,p9,p10,p11,p12⟩:=he
 have t2:Ties (upTo cs.length) σ' σ:=by
  intro b b' hb r hr
  obtain ⟨h1,rfl⟩:=Q0r hb
  cases hs:σ b' with
  | some r0 =>
   have :=p1 b' r0 (by simp only[σr,if_pos h1];exact hs)
   rw[hr]at this;cases this;rfl
  | none =>
   have :=p2 b' (by simp only[σr,if_pos h1];exact hs) (.inl (by omega))
   rw[hr]at this;cases this
 refine ⟨σ,v,rfl,Le.refl σ,fun _ h _=>h,V0p t2 _ _ _ hr p3,?_,hinj,fun b r hb=>Nat.lt_of_lt_of_le (hbd b r hb) p11,?_,p8,p9,p10,p11,?_⟩
 ·intro b c hb
  have hb0:=hb
  rw[A0w,if_pos (Nat.zero_le _),Nat.sub_zero]at hb
  obtain ⟨c0,h1,h2⟩:=G0p hc' hb
  have hlt2:b<cs.length:=by rw[← hl];exact (List.getElem?_eq_some_iff.1 hb).1
  have hfit:=p4 b c0 (by rw[A0w,if_pos (Nat.zero_le _),Nat.sub_zero];exact h1)
  cases c0 with
  | av a=>simp[renC]at h2
  | row e cc =>
   obtain ⟨r0,vs,h5,h6⟩:=hfit
   exact C0g t2 h2 h5 (t2 b b (M1d hlt2) r0 h5) ⟨r0,vs,h5,h6⟩
  | obj o =>
   obtain ⟨r0,o',h5,h6⟩:=hfit
   exact C0g t2 h2 h5 (t2 b b (M1d hlt2) r0 h5) ⟨r0,o',h5,h6⟩
 ·intro b c hb
  rw[A0w,if_pos (Nat.zero_le _),Nat.sub_zero]at hb
  have hlt:b<cs.length:=by rw[← hl];exact (List.getElem?_eq_some_iff.1 hb).1
  exact .inl ⟨cs[b],by rw[A0w,if_pos (Nat.zero_le _),Nat.sub_zero];exact List.getElem?_eq_getElem hlt⟩
 ·intro k hk hno
  refine p12 k hk fun b c hb hs=>?_
  rw[A0w,if_pos (Nat.zero_le _),Nat.sub_zero]at hb
  obtain ⟨h1,h2⟩:=hσr b k hs
  exact hno b cs[b] (by rw[A0w,if_pos (Nat.zero_le _),Nat.sub_zero];exact List.getElem?_eq_getElem h1) h2
def B0t(N:Nat)(args:List AV)(cs:List Con):St:=⟨args++List.replicate (N-args.length) (.val undef),numH 0 cs,4096,4096+2^200,2^180,[]⟩
def okCs:List Con→Bool
 | []=>true
 | .av _ :: _=>false
 | _ :: r=>okCs r
theorem B1h:∀{cs:List Con} (k:Nat),okCs cs=true→noAv (numH k cs)=true
 | [],k,_=>rfl
 | c :: r,k,h=>by
  cases c with
  | av _=>simp[okCs]at h
  | row _ _=>simp only[okCs]at h;simp only[numH,noAv];exact B1h (k+1) h
  | obj _=>simp only[okCs]at h;simp only[numH,noAv];exact B1h (k+1) h
theorem E0k{f:FuncId}{fn:Func}{c:Code}(hfn:P.funcs[f]?=some fn)(hbody:fn.body=some c)(hN:fn.ntmps=N){args:List AV}{cs cs':List Con}{r:AV}(hle:args.length≤N)(hn:cs.length≤4096)(hl:cs'.length=cs.length)(ha:renL (upTo cs.length) args=some args)(hc:J0x (upTo cs.length) cs=some cs)
  {e:Ex} (he:e=.normal∨e=.ret) {s':St} (h:A0b P N c (B0t N args cs) e s') {l:List AV} (hres:resA P s' fn.results.toList=some l) (hp:pack l=r) (hr:renO (upTo cs.length) r=some r) (hcs:∀b c,cs'[b]?=some c→hget s'.heap b=some c) (hok:okCs cs'=true) (hc':J0x (upTo cs.length) cs'=some cs') :
  cs.length≤cs'.length∧CallFacts P f args (numH 0 cs) cs.length cs'.length r (numH 0 cs'):=by
 subst hN
 subst hp
 refine V0w ⟨hl,N1c hn hl ha hc hr hc' (A0b.facts hfn hbody (hi:=4096+2^200) hle he h hres (numH 0 cs') (fun b c hb=>?_) (B1h 0 hok))⟩
 rw[A0w,if_pos (Nat.zero_le _),Nat.sub_zero]at hb
 exact hcs b c hb
end Go.Ab
namespace Go.Ab
open Go
def seqL:Code→Code | .seq a _=>a | c=>c
def seqR:Code→Code | .seq _ b=>b | c=>c
def inB:Code→Code | .block _ c=>c | .loop c=>c | c=>c
def ifT:Code→Code | .cond _ a _=>a | c=>c
def ifE:Code→Code | .cond _ _ b=>b | c=>c
def regO:Code→Array Oper | .region _ ops _=>ops | _=>#[]
def B0a(ops:Array Oper)(k:Nat):Option (Op×Option Nat×Bool):=(ops[k]?).map fun o=>(o.op,o.dst,o.guard.isNone)
theorem D0n{ops:Array Oper}{k:Nat}{op:Op}{d:Option Nat}(h:B0a ops k=some (op,d,true)):∃o,ops[k]?=some o∧o.op=op∧o.dst=d∧o.guard=none:=by
 unfold B0a at h
 cases ho:ops[k]? with
 | none=>rw[ho]at h;cases h
 | some o =>
  rw[ho]at h
  simp only[Option.map_some,Option.some.injEq,Prod.mk.injEq,Option.isNone_iff_eq_none]at h
  exact ⟨o,rfl,h.1,h.2.1,h.2.2⟩
theorem M0b{P:Program}{w:World}{t:TypeId}{d:TypeDesc}{a:Addr}{v:Value}(hd:P.underlying t=some d)(hagg:R0n d=false)(hc:w.cell? a=some v):(loadVar t a).run P w=.ok v w:=by
 unfold loadVar
 rw[Sem.run_bind,M0v hd w,hagg]
 simp only[Result.andThen_ok,Bool.false_eq_true,if_false,run_load,hc]
section
variable {P:Program} {N:Nat} {ops:Array Oper} {Q:Exit→Act→World→Prop} {F:Nat→Prop} {w0:World} {s:St} {a:Act} {w:World}
theorem K0g{k d:Nat}{x:Operand}(hs:B0a ops k=some (.move x,some d,true))(hd:d<N)(hlen:s.tmps.length=N)(hh:A0t F w0 N s a w){v:Value}(hx:a.eval x=v)(rest:List Nat)
  (hK:∀a',A0t F w0 N {s with tmps:=s.tmps.set d (.val v)} a' w→wpOps P ops Q rest a' w):wpOps P ops Q (k :: rest) a w:=by
 obtain ⟨o,ho,hop,hdst,hg⟩:=D0n hs
 exact V0d ho hg hdst hd hlen hh (by simp only[execOp,hop,hx,Sem.run_pure]) rest hK
theorem M1m{k d:Nat}{x:Operand}(hs:B0a ops k=some (.assign x,some d,true))(hd:d<N)(hlen:s.tmps.length=N)(hh:A0t F w0 N s a w){v:Value}(hx:a.eval x=v)(rest:List Nat)
  (hK:∀a',A0t F w0 N {s with tmps:=s.tmps.set d (.val v)} a' w→wpOps P ops Q rest a' w):wpOps P ops Q (k :: rest) a w:=by
 obtain ⟨o,ho,hop,hdst,hg⟩:=D0n hs
 exact V0d ho hg hdst hd hlen hh (by simp only[execOp,hop,hx,Sem.run_pure]) rest hK
theorem T1y{k d:Nat}{t elem:TypeId}{x ix:Operand}{ti:TypeInfo}(hs:B0a ops k=some (.indexAddr t x ix,some d,true))(hd:d<N)(hlen:s.tmps.length=N)(hu:P.underlying t=some (.slice elem))(hi:P.info? elem=some ti)
  (hh:A0t F w0 N s a w) {b:Addr} {len cap i:Nat} {ik:IntKind} (hx:a.eval x=.slice (some b) len cap) (hix:a.eval ix=.int ik i) (hlt:i<len) (rest:List Nat)
  (hK:∀a',A0t F w0 N {s with tmps:=s.tmps.set d (.val (.pointer (some (b.add (i*ti.size)))))} a' w→wpOps P ops Q rest a' w):wpOps P ops Q (k :: rest) a w:=by
 obtain ⟨o,ho,hop,hdst,hg⟩:=D0n hs
 refine V0d ho hg hdst hd hlen hh (v:=.pointer (some (b.add (i*ti.size)))) ?_ rest hK
 have hb:0≤(i:Int)∧(i:Int)<(len:Int):=by omega
 simp only[execOp,hop,Instr.indexAt,hix,asIntOf,Sem.run_bind,run_underlying hu,Result.andThen_ok,hx,Sem.run_pure,Sem.run_ite,if_pos hb,B0q hi,Int.toNat_natCast]
theorem G1a{k d:Nat}{t:TypeId}{x:Operand}(hs:B0a ops k=some (.load t x,some d,true))(hd:d<N)(hlen:s.tmps.length=N)(hh:A0t F w0 N s a w){b:Addr}(hx:a.eval x=.pointer (some b)){v:Value}(hv:(loadVar t b).run P w=.ok v w)(rest:List Nat)
  (hK:∀a',A0t F w0 N {s with tmps:=s.tmps.set d (.val v)} a' w→wpOps P ops Q rest a' w):wpOps P ops Q (k :: rest) a w:=by
 obtain ⟨o,ho,hop,hdst,hg⟩:=D0n hs
 refine V0d ho hg hdst hd hlen hh ?_ rest hK
 simp only[execOp,hop,Instr.loadAt,hx,Instr.sureAddr,Sem.run_bind,Sem.run_pure,Result.andThen_ok,hv]
end
variable {P:Program} {N:Nat}
def anyV:Nat→AV:=fun _=>.any
def E0d(N:Nat)(ts:List Nat):List Nat:=(nums 0 N).filter fun i=>!hasN ts i
def gSt(N:Nat)(tm:List (Nat×AV))(H:Hp)(lo:Nat):St:=⟨tmA N tm anyV,H,lo,4096+2^200,2^180,[]⟩
abbrev gRun(P:Program)(E:Env)(N:Nat)(c:Code)(s:St)(keep ts:List Nat):Option (Ex×St):=run P (B0v P E 4) N {quiet:=B0p E.gam} [] 1000 (Ex×St) c s (fun e s=>some (e,G0k keep (E0d N ts) s))
abbrev gCut(P:Program)(E:Env)(N:Nat)(c:Code)(s:St)(lo:Nat)(keep ts:List Nat):Option (Ex×St):=run P (B0v P E 4) N {quiet:=B0p E.gam} [] 1000 (Ex×St) c s (fun e s=>some (e,{G0k keep (E0d N ts) s with lo:=lo}))
theorem A0a{E:Env}(hG:GamOk P E.gam){c:Code}{s s1:St}{e:Ex}{keep ts:List Nat}(h:gRun P E N c s keep ts=some (e,s1)):A0b P N c s e s1:=A0e (B0b hG 4) keep _ h
theorem A0c{E:Env}(hG:GamOk P E.gam){c:Code}{s s1:St}{e:Ex}{lo:Nat}{keep ts:List Nat}(h:gCut P E N c s lo keep ts=some (e,s1))(hlo:s.lo=lo)(hok:A0p lo s1=true)(hhi:s1.hi=s.hi):A0b P N c s e s1:=by
 subst hlo
 simp only[A0p,Bool.and_eq_true,List.all_eq_true,Nat.blt_eq]at hok
 obtain ⟨hct,hch⟩:=hok
 refine Q3r (B0b hG 4) (E0d N ts) keep h hhi (fun b c hb=>?_) fun σ _ _ l c hl=>?_
 ·have hm:=H0c (H:=s1.heap) hb
  have :=(hch _ hm).1
  unfold C0w
  omega
 ·cases l with
  | tmp t =>
   simp only[St.u,stU,Option.map_eq_some_iff]at hl
   obtain ⟨x,hx,rfl⟩:=hl
   intro b hb
   have :=hct x (List.mem_of_getElem? hx) b hb
   unfold C0w
   omega
  | blk b =>
   have hm:=H0c (H:=s1.heap) hl
   have :=(hch _ hm).2
   cases c with
   | av x=>intro d hd;have :=this d hd;unfold C0w;omega
   | row e cs=>intro d hd;have :=this d hd;unfold C0w;omega
   | obj o=>trivial
theorem A0b.freed{c:Code}{s s1:St}{e:Ex}(h2:A0b P N c s e s1){lo:Nat}(hlo:s.lo=lo)(hok:A0p lo s1=true)(hhi:s1.hi=s.hi):A0b P N c s e {s1 with lo:=lo}:=by
 subst hlo
 simp only[A0p,Bool.and_eq_true,List.all_eq_true,Nat.blt_eq]at hok
 obtain ⟨hct,hch⟩:=hok
 have hblk:∀b c,s1.u (.blk b)=some c→C0w s.lo s.hi b:=fun b c hb=>by
  have hm:=H0c (H:=s1.heap) hb
  have :=(hch _ hm).1
  unfold C0w
  omega
 have hcl:∀l c,s1.u l=some c→M1h s.lo s.hi c:=fun l c hl=>by
  cases l with
  | tmp t =>
   simp only[St.u,stU,Option.map_eq_some_iff]at hl
   obtain ⟨x,hx,rfl⟩:=hl
   intro b hb
   have :=hct x (List.mem_of_getElem? hx) b hb
   unfold C0w
   omega
  | blk b =>
   have hm:=H0c (H:=s1.heap) hl
   have :=(hch _ hm).2
   cases c with
   | av x=>intro d hd;have :=this d hd;unfold C0w;omega
   | row e cs=>intro d hd;have :=this d hd;unfold C0w;omega
   | obj o=>trivial
 intro w0 own σ0 lo0 hi0 a w hst Q hQ
 refine h2 w0 own σ0 lo0 hi0 a w hst Q fun a' w' hst'=>hQ a' w' ?_
 obtain ⟨σs,us,hfs,hss,hns,hls,hos,hlos,his⟩:=hst
 obtain ⟨σ,u,hf,hs,hn,hl,ho,hlo,hi⟩:=hst'
 have hw:Fits N w0 own σ s1.u a' w':=hf.sub hs
 have hnone:∀b,s.lo≤b→b<s.hi→σ0 b=none:=by
  intro b hb1 hb2
  cases h0:σ0 b with
  | none=>rfl
  | some r=>have :=hls b r h0;rw[hns b hb1 hb2]at this;cases this
 refine ⟨cutσ σ s.lo s.hi,s1.u,?_,Sub.refl _,fun b hb1 hb2=>?_,fun b r hb=>?_,fun b hb1 hb2=>?_,hlos,by rw[hhi];exact his⟩
 ·refine {hw with tmp:=fun t v hv=>?_,row:=fun b e cs hb=>?_,obj:=fun b o hb=>?_,inj:=fun b b' r h1 h2=>hw.inj b b' r (A0x h1) (A0x h2),bound:=fun b r hb=>hw.bound b r (A0x hb),ownsR:=fun b e cs r hb hr=>hw.ownsR b e cs r hb (A0x hr),ownsO:=fun b o r hb hr=>hw.ownsO b o r hb (A0x hr)}
  ·obtain ⟨x,h3,h4⟩:=hw.tmp t v hv
   exact ⟨x,h3,Rel.cut v x (hcl _ _ hv) h4⟩
  ·obtain ⟨r,vs,h3,h4,h5⟩:=hw.row b e cs hb
   exact ⟨r,vs,by rw[B0k (hblk b _ hb)];exact h3,h4,Rels.cut cs vs (hcl _ _ hb) h5⟩
  ·obtain ⟨r,o',h3,h4,h5⟩:=hw.obj b o hb
   exact ⟨r,o',by rw[B0k (hblk b _ hb)];exact h3,h4,h5⟩
 ·have hb2:b<s.hi:=by rw[← hhi];exact hb2
  unfold cutσ
  rw[if_pos ⟨hb1,hb2⟩]
 ·have hc:C0w s.lo s.hi b:=fun hc=>by rw[hnone b hc.1 hc.2]at hb;cases hb
  rw[B0k hc]
  exact hl b r hb
 ·have :=ho b hb1 hb2
  unfold cutσ
  split
  ·rfl
  ·exact this
def ints(n:Nat)(v:Nat→Int):List AV:=(nums 0 n).map fun i=>.val (.int .i64 (v i))
end Go.Ab
namespace Go.Ab
open Go
variable {P:Program} {N:Nat}
theorem Z0d:∀{L:List Nat} {k i m:Nat},L.Nodup→L[i]?=some m→B1y k L m=some (k+i)
 | [],k,i,m,_,h=>by simp at h
 | x :: r,k,0,m,_,h=>by
  simp at h
  subst h
  simp[B1y]
 | x :: r,k,i+1,m,hnd,h=>by
  simp at h
  rw[List.nodup_cons]at hnd
  have hne:Nat.beq x m=false:=by
   cases hb:Nat.beq x m with
   | false=>rfl
   | true =>
    have :=Nat.eq_of_beq_eq_true hb
    subst this
    exact absurd (List.mem_of_getElem? h) hnd.1
  simp only[B1y,hne]
  rw[Z0d hnd.2 h]
  congr 1
  omega
def newR(k:Nat)(Ms:List Nat):Nat→Option Nat:=fun b=>match Nat.blt b k with | true=>some b | false=>B1y k Ms b
theorem L2k{k:Nat}{Ms:List Nat}{b b':Nat}(h:newR k Ms b=some b'):(b<k∧b'=b)∨(k≤b'∧Ms[b'-k]?=some b):=by
 unfold newR at h
 split at h
 ·rename_i hb
  cases h
  exact .inl ⟨by simpa using hb,rfl⟩
 ·exact .inr (X0j Ms k b b' h)
theorem Y1g{k:Nat}{Ms:List Nat}{b:Nat}(h:b<k):newR k Ms b=some b:=by
 unfold newR
 rw[show Nat.blt b k=true by simpa using h]
theorem W2z{k:Nat}{Ms:List Nat}{i m:Nat}(hnd:Ms.Nodup)(hm:k≤m)(h:Ms[i]?=some m):newR k Ms m=some (k+i):=by
 unfold newR
 rw[show Nat.blt m k=false by
  cases hb:Nat.blt m k with
  | false=>rfl
  | true=>rw[Nat.blt_eq]at hb;omega]
 exact Z0d hnd h
theorem E2u{f:FuncId}{args:List AV}{cs cs' ds cs2:List Con}{Ms:List Nat}{r r':AV}{lo hi:Nat}{H':Hp}(hn:cs.length+Ms.length≤lo)(hl:cs'.length=cs.length)(hd:ds.length=Ms.length)(hnd:Ms.Nodup)(hM:∀m∈Ms,lo≤m∧m<hi)
  (ha:renL (upTo cs.length) args=some args) (hc:J0x (upTo cs.length) cs=some cs) (hr:renO (newR cs.length Ms) r=some r') (hc':J0x (newR cs.length Ms) (cs'++ds)=some cs2)
  (hH1:∀(b:Nat) c,cs'[b]?=some c→hget H' b=some c) (hH2:∀(i m:Nat) d,Ms[i]?=some m→ds[i]?=some d→hget H' m=some d)
  (hf:CallFacts P f args (numH 0 cs) lo hi r H'):CallFacts P f args (numH 0 cs) cs.length (cs.length+Ms.length) r' (numH 0 cs2):=by
 intro σ vals w hinj hbd hvals hH hfree
 let σr:Nat→Option Nat:=fun b=>if b<cs.length then σ b else none
 have hσr:∀b r,σr b=some r→b<cs.length∧σ b=some r:=by
  intro b r hb
  simp only[σr]at hb
  split at hb
  ·rename_i h;exact ⟨h,hb⟩
  ·cases hb
 have t1:Ties (upTo cs.length) σ σr:=by
  intro b b' hb r hr
  obtain ⟨h1,rfl⟩:=Q0r hb
  simp only[σr,if_pos h1];exact hr
 have hHr:Y0u σr (numH 0 cs) w:=by
  intro b c hb
  rw[A0w,if_pos (Nat.zero_le _),Nat.sub_zero]at hb
  obtain ⟨c0,h1,h2⟩:=G0p hc hb
  have hlt:=(List.getElem?_eq_some_iff.1 h1).1
  have hfit:=hH b c0 (by rw[A0w,if_pos (Nat.zero_le _),Nat.sub_zero];exact h1)
  cases c0 with
  | av a=>simp[renC]at h2
  | row e cc =>
   obtain ⟨r0,vs,h5,h6⟩:=hfit
   exact C0g t1 h2 h5 (by simp only[σr,if_pos hlt];exact h5) ⟨r0,vs,h5,h6⟩
  | obj o =>
   obtain ⟨r0,o',h5,h6⟩:=hfit
   exact C0g t1 h2 h5 (by simp only[σr,if_pos hlt];exact h5) ⟨r0,o',h5,h6⟩
 refine Calls.mono (hf σr vals w (fun b b' r h1 h2=>hinj _ _ _ (hσr _ _ h1).2 (hσr _ _ h2).2) (fun b r h1=>hbd _ _ (hσr _ _ h1).2) (J0a t1 _ _ _ ha hvals) hHr (fun b h1 h2=>by simp only[σr];rw[if_neg (by omega)])) fun e w' he=>?_
 obtain ⟨σ',v,rfl,p1,p2,p3,p4,p5,p6,p7,p8,p9,p10,p11,p12⟩:=he
 let σ2:Nat→Option Nat:=fun b=>if b<cs.length then σ b else if b<cs.length+Ms.length then (Ms[b-cs.length]?).bind σ' else σ b
 have hold:∀b,(b<cs.length∨cs.length+Ms.length≤b)→σ2 b=σ b:=by
  intro b hb
  simp only[σ2]
  split
  ·rfl
  ·rw[if_neg (by omega)]
 have hnew:∀i m,Ms[i]?=some m→σ2 (cs.length+i)=σ' m:=by
  intro i m hi
  have hlt:=(List.getElem?_eq_some_iff.1 hi).1
  simp only[σ2]
  rw[if_neg (by omega),if_pos (by omega),Nat.add_sub_cancel_left,hi]
  rfl
 have hcase:∀b r,σ2 b=some r→((b<cs.length∨cs.length+Ms.length≤b)∧σ b=some r)∨∃i m,b=cs.length+i∧Ms[i]?=some m∧σ' m=some r:=by
  intro b r hb
  by_cases h1:b<cs.length∨cs.length+Ms.length≤b
  ·rw[hold b h1]at hb;exact .inl ⟨h1,hb⟩
  ·have h2:b-cs.length<Ms.length:=by omega
   have h3:=List.getElem?_eq_getElem h2
   refine .inr ⟨b-cs.length,_,by omega,h3,?_⟩
   have :=hnew _ _ h3
   rw[show cs.length+(b-cs.length)=b by omega]at this
   rw[← this];exact hb
 have hsize:∀(i m r:Nat),Ms[i]?=some m→σ' m=some r→w.heap.size≤r:=by
  intro i m r hi hs
  have hlt:=(List.getElem?_eq_some_iff.1 hi).1
  obtain ⟨d,hd'⟩:∃d,ds[i]?=some d:=⟨_,List.getElem?_eq_getElem (by omega)⟩
  rcases p7 m d (hH2 i m d hi hd') with ⟨c',hc0⟩ | h
  ·rw[A0w,if_pos (Nat.zero_le _),Nat.sub_zero]at hc0
   have :=(List.getElem?_eq_some_iff.1 hc0).1
   have :=(hM m (List.mem_of_getElem? hi)).1
   omega
  ·exact h r hs
 have t2:Ties (newR cs.length Ms) σ' σ2:=by
  intro b b' hb r hr
  rcases L2k hb with ⟨h1,rfl⟩ | ⟨h1,h2⟩
  ·rw[hold b' (.inl h1)]
   cases hs:σ b' with
   | some r0 =>
    have :=p1 b' r0 (by simp only[σr,if_pos h1];exact hs)
    rw[hr]at this;cases this;rfl
   | none =>
    have :=p2 b' (by simp only[σr,if_pos h1];exact hs) (.inl (by omega))
    rw[hr]at this;cases this
  ·have :=hnew _ _ h2
   rw[show cs.length+(b'-cs.length)=b' by omega]at this
   rw[this];exact hr
 refine ⟨σ2,v,rfl,fun b r hb=>?_,fun b hb hb2=>?_,V0p t2 _ _ _ hr p3,?_,fun b b' r h1 h2=>?_,fun b r hb=>?_,?_,p8,p9,p10,p11,?_⟩
 ·by_cases h1:b<cs.length∨cs.length+Ms.length≤b
  ·rw[hold b h1];exact hb
  ·have :=hfree b (by omega) (by omega)
   rw[hb]at this;cases this
 ·rw[hold b hb2];exact hb
 ·intro b c hb
  rw[A0w,if_pos (Nat.zero_le _),Nat.sub_zero]at hb
  obtain ⟨c0,h1,h2⟩:=G0p hc' hb
  by_cases hlt:b<cs.length
  ·rw[List.getElem?_append_left (by omega)]at h1
   have hfit:=p4 b c0 (hH1 b c0 h1)
   cases c0 with
   | av a=>simp[renC]at h2
   | row e cc =>
    obtain ⟨r0,vs,h5,h6⟩:=hfit
    exact C0g t2 h2 h5 (t2 b b (Y1g hlt) r0 h5) ⟨r0,vs,h5,h6⟩
   | obj o =>
    obtain ⟨r0,o',h5,h6⟩:=hfit
    exact C0g t2 h2 h5 (t2 b b (Y1g hlt) r0 h5) ⟨r0,o',h5,h6⟩
  ·rw[List.getElem?_append_right (by omega),hl]at h1
   have hlt2:=(List.getElem?_eq_some_iff.1 h1).1
   have hm:=List.getElem?_eq_getElem (l:=Ms) (i:=b-cs.length) (by omega)
   have hmlo:=(hM _ (List.mem_of_getElem? hm)).1
   have hfit:=p4 _ c0 (hH2 _ _ c0 hm h1)
   have hρ:=W2z (k:=cs.length) hnd (by omega) hm
   rw[show cs.length+(b-cs.length)=b by omega]at hρ
   cases c0 with
   | av a=>simp[renC]at h2
   | row e cc =>
    obtain ⟨r0,vs,h5,h6⟩:=hfit
    exact C0g t2 h2 h5 (t2 _ b hρ r0 h5) ⟨r0,vs,h5,h6⟩
   | obj o =>
    obtain ⟨r0,o',h5,h6⟩:=hfit
    exact C0g t2 h2 h5 (t2 _ b hρ r0 h5) ⟨r0,o',h5,h6⟩
 ·rcases hcase b r h1 with ⟨k1,k2⟩ | ⟨i,m,rfl,k2,k3⟩<;>rcases hcase b' r h2 with ⟨j1,j2⟩ | ⟨i',m',rfl,j2,j3⟩
  ·exact hinj _ _ _ k2 j2
  ·have :=hsize _ _ _ j2 j3
   have :=hbd _ _ k2
   omega
  ·have :=hsize _ _ _ k2 k3
   have :=hbd _ _ j2
   omega
  ·have hm:=p5 _ _ _ k3 j3
   subst hm
   have a:=Z0d (k:=0) hnd k2
   have b:=Z0d (k:=0) hnd j2
   rw[a]at b
   simp at b
   omega
 ·rcases hcase b r hb with ⟨_,k2⟩ | ⟨i,m,rfl,k2,k3⟩
  ·exact Nat.lt_of_lt_of_le (hbd b r k2) p11
  ·exact p6 _ _ k3
 ·intro b c hb
  rw[A0w,if_pos (Nat.zero_le _),Nat.sub_zero]at hb
  by_cases hlt:b<cs.length
  ·exact .inl ⟨cs[b],by rw[A0w,if_pos (Nat.zero_le _),Nat.sub_zero];exact List.getElem?_eq_getElem hlt⟩
  ·refine .inr fun r hs=>?_
   obtain ⟨c0,h1,h2⟩:=G0p hc' hb
   have hlt2:=(List.getElem?_eq_some_iff.1 h1).1
   rw[List.length_append]at hlt2
   rcases hcase b r hs with ⟨k1,_⟩ | ⟨i,m,rfl,k2,k3⟩
   ·omega
   ·exact hsize _ _ _ k2 k3
 ·intro k hk hno
  refine p12 k hk fun b c hb hs=>?_
  rw[A0w,if_pos (Nat.zero_le _),Nat.sub_zero]at hb
  obtain ⟨h1,h2⟩:=hσr b k hs
  exact hno b cs[b] (by rw[A0w,if_pos (Nat.zero_le _),Nat.sub_zero];exact List.getElem?_eq_getElem h1) h2
theorem R2r{f:FuncId}{fn:Func}{c:Code}(hfn:P.funcs[f]?=some fn)(hbody:fn.body=some c)(hN:fn.ntmps=N){args:List AV}{cs cs' ds cs2:List Con}{Ms:List Nat}{r r':AV}(hle:args.length≤N)(hn:cs.length+Ms.length≤4096)(hl:cs'.length=cs.length)(hd:ds.length=Ms.length)(hnd:Ms.Nodup)(hM:∀m∈Ms,4096≤m∧m<4096+2^200)
  (ha:renL (upTo cs.length) args=some args) (hc:J0x (upTo cs.length) cs=some cs)
  {e:Ex} (he:e=.normal∨e=.ret) {s':St} (h:A0b P N c (B0t N args cs) e s') {l:List AV} (hres:resA P s' fn.results.toList=some l) (hp:pack l=r) (hr:renO (newR cs.length Ms) r=some r') (hcs:∀b c,cs'[b]?=some c→hget s'.heap b=some c) (hds:∀(i m:Nat) d,Ms[i]?=some m→ds[i]?=some d→hget s'.heap m=some d)
  (hok:noAv s'.heap=true) (hc':J0x (newR cs.length Ms) (cs'++ds)=some cs2) (hl2:cs2.length=cs.length+Ms.length) :
  cs.length≤cs2.length∧CallFacts P f args (numH 0 cs) cs.length cs2.length r' (numH 0 cs2):=by
 subst hN
 subst hp
 rw[hl2]
 exact ⟨by omega,E2u hn hl hd hnd hM ha hc hr hc' hcs hds (A0b.facts hfn hbody (hi:=4096+2^200) hle he h hres s'.heap (fun b c hb=>hb) hok)⟩
end Go.Ab
namespace Go.Ab
structure U6 where
 n:Int
instance:Cod U6 where
 enc x:=.int .u64 x.n
 dec v:=match v with | .int .u64 x=>some ⟨x⟩ | _=>none
 law v a h:=by split at h<;>simp_all;subst h;simp
def S0c{α ω:Type}[Args α][Cod ω](pre:α→Bool)(g:α→ω):D0c:=fun args cs=>match cs with
 | []=>match Args.decs (α:=α) args with
  | some a=>.test (pre a) (.ret (.val (Cod.enc (g a))) []) .no
  | none=>.no
 | _ :: _=>.no
theorem R1r{α ω:Type}[Args α][Cod ω]{pre:α→Bool}{g:α→ω}{args:List AV}{cs cs':List Con}{r:AV}(h:(S0c pre g args cs).sel=some (r,cs')) :
  ∃a,pre a=true∧args=Args.encs a∧cs=[]∧r=.val (Cod.enc (g a))∧cs'=[]:=by
 unfold S0c at h
 split at h
 ·split at h
  ·rename_i a h1
   simp only[STr.sel]at h
   cases hp:pre a with
   | false=>rw[hp]at h;cases h
   | true =>
    rw[hp]at h
    simp only[cond_true,Option.some.injEq,Prod.mk.injEq]at h
    obtain ⟨rfl,rfl⟩:=h
    exact ⟨a,hp,Args.law _ _ h1,rfl,rfl,rfl⟩
  ·simp[STr.sel]at h
 ·simp[STr.sel]at h
theorem C2u{α ω:Type}[Args α][Cod ω]{P:Program}{E:Env}(hG:GamOk P E.gam){f:FuncId}{pre:α→Bool}{g:α→ω}(d:Nat)
  (h:∀a,pre a=true→fnSum P E [] d f (Args.encs a) []=some (.val (Cod.enc (g a)),[])):A0h P f (S0c pre g):=by
 refine K0a hG fun args cs r cs' hs=>?_
 obtain ⟨a,hp,rfl,rfl,rfl,rfl⟩:=R1r hs
 exact ⟨by simp,d,h a hp⟩
theorem H1q{α ω:Type}[Args α][Cod ω]{P:Program}{E:Env}(hG:GamOk P E.gam){hB:M0e}{f:FuncId}(hfit:∀fn c,P.funcs[f]?=some fn→fn.body=some c→HFit P fn.ntmps hB c){pre:α→Bool}{g:α→ω}(d:Nat)
  (h:∀a,pre a=true→fnSum P E hB d f (Args.encs a) []=some (.val (Cod.enc (g a)),[])):A0h P f (S0c pre g):=by
 refine C1x hG hfit fun args cs r cs' hs=>?_
 obtain ⟨a,hp,rfl,rfl,rfl,rfl⟩:=R1r hs
 exact ⟨by simp,d,h a hp⟩
theorem T1n{P:Program}{f:FuncId}{vals:List Value}{v:Value}(h:∀w,Calls P f (List.toArray vals) w fun e w'=>e=.returned v∧w'=w):CallFacts P f (vals.map .val) (numH 0 []) 0 0 (.val v) (numH 0 []):=by
 intro σ vs w hinj hbd hvals _ _
 have e:vs=vals:=by
  clear h hinj hbd
  induction vals generalizing vs with
  | nil=>simpa only[List.map_nil,Rels]using hvals
  | cons a r ih =>
   simp only[List.map_cons,Rels]at hvals
   obtain ⟨x,xs,rfl,h1,h2⟩:=hvals
   simp only[Rel]at h1
   rw[h1,ih xs h2]
 subst e
 refine Calls.mono (h w) fun e w' ⟨he,hw⟩=>?_
 subst hw
 exact ⟨σ,v,he,Le.refl σ,fun _ h _=>h,by simp only[Rel],fun b c hb=>by simp[numH,hget]at hb,hinj,hbd,fun b c hb=>by simp[numH,hget]at hb,rfl,rfl,rfl,Nat.le_refl _,fun _ _ _=>rfl⟩
theorem M1j{α ω:Type}[Args α][Cod ω]{P:Program}{f:FuncId}{pre:α→Bool}{g:α→ω}(vals:α→List Value)(hv:∀a,Args.encs a=(vals a).map .val)
  (h:∀a,pre a=true→∀w,Calls P f (List.toArray (vals a)) w fun e w'=>e=.returned (Cod.enc (g a))∧w'=w):A0h P f (S0c pre g):=by
 intro args cs r cs' hs
 obtain ⟨a,hp,rfl,rfl,rfl,rfl⟩:=R1r hs
 exact V0w ⟨rfl,by rw[hv];exact T1n (h a hp)⟩
structure Wd where
 h:Int
 l:Int
instance:Cod Wd where
 enc v:=.agg #[.int .u64 v.h,.int .u64 v.l]
 dec v:=match v with | .agg ⟨[.int .u64 x,.int .u64 y]⟩=>some ⟨x,y⟩ | _=>none
 law v a h:=by split at h<;>simp_all;subst h;simp
structure Pl where
 mode:Int
 calm:Int
 good:Int
 miss:Int
 lost:Int
 faults:Int
structure Sn where
 gap:Bool
 gyro:Bool
 slow:Bool
 pair:Bool
 lit:Bool
 bad:Bool
 pass:Bool
 order:Int
instance:Cod Pl where
 enc p:=.agg #[.int .i64 p.mode,.int .i64 p.calm,.int .i64 p.good,.int .i64 p.miss,.int .i64 p.lost,.int .i64 p.faults]
 dec v:=match v with | .agg ⟨[.int .i64 a,.int .i64 b,.int .i64 c,.int .i64 d,.int .i64 e,.int .i64 f]⟩=>some ⟨a,b,c,d,e,f⟩ | _=>none
 law v a h:=by split at h<;>simp_all;subst h;simp
instance:Cod Sn where
 enc s:=.agg #[.bool s.gap,.bool s.gyro,.bool s.slow,.bool s.pair,.bool s.lit,.bool s.bad,.bool s.pass,.int .i64 s.order]
 dec v:=match v with | .agg ⟨[.bool a,.bool b,.bool c,.bool d,.bool e,.bool f,.bool g,.int .i64 h]⟩=>some ⟨a,b,c,d,e,f,g,h⟩ | _=>none
 law v a h:=by split at h<;>simp_all;subst h;simp
def cntV(n:Int):Int:=bif decide (n≥100) then 100 else IntKind.i64.wrap (n+1)
def toV(mode faults:Int):Pl:=⟨mode,0,0,0,0,faults⟩
def orV(a b:Int):Int:=IntKind.i64.wrap ↑(BitVec.ofInt IntKind.i64.bits a ||| BitVec.ofInt IntKind.i64.bits b).toNat
def G2d(p:Pl)(s:Sn):Pl :=
 bif s.gap then toV 1 (orV p.faults 1) else bif s.bad then toV 1 (orV p.faults 4) else
  let lost:=bif s.gyro then 0 else cntV p.lost
  bif decide (lost≥3) then toV 1 (orV p.faults 2) else
   bif s.pair&&s.lit then
    let miss:=bif s.pass then 0 else cntV p.miss
    bif decide (miss≥5) then toV 1 (orV p.faults 8) else ⟨p.mode,p.calm,p.good,miss,lost,p.faults⟩
   else ⟨p.mode,p.calm,p.good,p.miss,lost,p.faults⟩
def H0v(p:Pl)(s:Sn):Pl :=
 bif s.order==1 then toV 3 p.faults else
 bif p.mode==3 then (bif s.order==2 then toV 0 0 else p) else
 bif p.mode==0 then
  let calm:=bif s.gyro&&s.slow then cntV p.calm else 0
  bif decide (calm≥3) then toV 1 p.faults else ⟨p.mode,calm,p.good,p.miss,p.lost,p.faults⟩
 else bif p.mode==1 then
  bif s.gap then toV 1 (orV p.faults 1) else bif s.gyro&&!s.slow then toV 0 p.faults else
   let good:=bif s.gyro&&(s.pair&&s.lit) then cntV p.good else 0
   bif decide (good≥2) then toV 2 p.faults else ⟨p.mode,p.calm,good,p.miss,p.lost,p.faults⟩
 else bif p.mode==2 then G2d p s else toV 3 p.faults
end Go.Ab
