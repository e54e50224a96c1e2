/- A part of the proofs: lemmas, no statement of their own; no condition. -/
import Derived.WalkKit
import Derived.Orders
import Derived.ChangeKeysEq
import Derived.Laws.StructEq
namespace Go.Ab
inductive AV where
 | val (v:Value)
 | ptr (b off:Nat)
 | slice (b off len cap:Nat)
 | agg (cs:List AV)
 | tuple (vs:List AV)
 | func (f:FuncId) (first captured:List AV)
 | map (b:Nat)
 | any
mutual
def Rel(σ:Nat→Option Nat):AV→Value→Prop
 | .val x,v=>v=x
 | .ptr b off,v=>∃r,σ b=some r∧v=.pointer (some ⟨r,off,none⟩)
 | .slice b off len cap,v=>∃r,σ b=some r∧v=.slice (some ⟨r,off,none⟩) len cap
 | .agg cs,v=>∃vs:List Value,v=.agg vs.toArray∧Rels σ cs vs
 | .tuple cs,v=>∃vs:List Value,v=.tuple vs.toArray∧Rels σ cs vs
 | .func f a b,v=>∃xs ys:List Value,v=.func (.func f) xs.toArray ys.toArray∧Rels σ a xs∧Rels σ b ys
 | .map b,v=>∃r,σ b=some r∧v=.map (some r)
 | .any,_=>True
def Rels(σ:Nat→Option Nat):List AV→List Value→Prop
 | [],vs=>vs=[]
 | a :: as,vs=>∃x xs,vs=x :: xs∧Rel σ a x∧Rels σ as xs
end
def Le(σ σ':Nat→Option Nat):Prop:=∀b r,σ b=some r→σ' b=some r
theorem Le.refl(σ:Nat→Option Nat):Le σ σ:=fun _ _ h=>h
theorem Le.trans{a b c:Nat→Option Nat}(h:Le a b)(k:Le b c):Le a c:=fun _ _ x=>k _ _ (h _ _ x)
mutual
theorem Rel.mono{σ σ':Nat→Option Nat}(h:Le σ σ'):∀(a:AV) (v:Value),Rel σ a v→Rel σ' a v
 | .val _,_,k=>by simpa only[Rel]using k
 | .ptr _ _,_,k=>by simp only[Rel]at k ⊢;obtain ⟨r,h1,h2⟩:=k;exact ⟨r,h _ _ h1,h2⟩
 | .slice _ _ _ _,_,k=>by simp only[Rel]at k ⊢;obtain ⟨r,h1,h2⟩:=k;exact ⟨r,h _ _ h1,h2⟩
 | .agg cs,_,k=>by simp only[Rel]at k ⊢;obtain ⟨r,h1,h2⟩:=k;exact ⟨r,h1,Rels.mono h cs _ h2⟩
 | .tuple cs,_,k=>by simp only[Rel]at k ⊢;obtain ⟨r,h1,h2⟩:=k;exact ⟨r,h1,Rels.mono h cs _ h2⟩
 | .func _ a b,_,k=>by simp only[Rel]at k ⊢;obtain ⟨x,y,h1,h2,h3⟩:=k;exact ⟨x,y,h1,Rels.mono h a _ h2,Rels.mono h b _ h3⟩
 | .map _,_,k=>by simp only[Rel]at k ⊢;obtain ⟨r,h1,h2⟩:=k;exact ⟨r,h _ _ h1,h2⟩
 | .any,_,_=>by simp only[Rel]
theorem Rels.mono{σ σ':Nat→Option Nat}(h:Le σ σ'):∀(a:List AV) (v:List Value),Rels σ a v→Rels σ' a v
 | [],_,k=>by simpa only[Rels]using k
 | a :: as,_,k=>by
  simp only[Rels]at k ⊢
  obtain ⟨x,xs,h1,h2,h3⟩:=k
  exact ⟨x,xs,h1,Rel.mono h a x h2,Rels.mono h as xs h3⟩
end
theorem Rels.length{σ:Nat→Option Nat}:∀{as:List AV} {vs:List Value},Rels σ as vs→as.length=vs.length
 | [],_,k=>by simp only[Rels]at k;subst k;rfl
 | a :: as,_,k=>by
  simp only[Rels]at k
  obtain ⟨x,xs,rfl,_,h3⟩:=k
  simp[Rels.length h3]
theorem Rels.get{σ:Nat→Option Nat}:∀{as:List AV} {vs:List Value} {i:Nat} {a:AV},Rels σ as vs→as[i]?=some a→∃v,vs[i]?=some v∧Rel σ a v
 | [],_,_,_,_,h=>by simp at h
 | a :: as,_,i,a',k,h=>by
  simp only[Rels]at k
  obtain ⟨x,xs,rfl,h2,h3⟩:=k
  cases i with
  | zero=>simp at h;subst h;exact ⟨x,rfl,h2⟩
  | succ i=>simp at h ⊢;exact Rels.get h3 h
theorem Rels.append{σ:Nat→Option Nat}:∀{as bs:List AV} {vs ws:List Value},Rels σ as vs→Rels σ bs ws→Rels σ (as++bs) (vs++ws)
 | [],_,_,_,k,h=>by simp only[Rels]at k;subst k;exact h
 | a :: as,bs,_,ws,k,h=>by
  simp only[Rels]at k
  obtain ⟨x,xs,rfl,h2,h3⟩:=k
  simp only[List.cons_append,Rels]
  exact ⟨x,xs++ws,rfl,h2,Rels.append h3 h⟩
theorem Rels.vals{σ:Nat→Option Nat}:∀(vs:List Value),Rels σ (vs.map .val) vs
 | []=>by simp[Rels]
 | v :: vs=>by
  simp only[List.map_cons,Rels]
  exact ⟨v,vs,rfl,by simp[Rel],Rels.vals vs⟩
theorem Rels.set{σ:Nat→Option Nat}:∀{as:List AV} {vs:List Value} {i:Nat} {a:AV} {v:Value},Rels σ as vs→Rel σ a v→Rels σ (as.set i a) (vs.set i v)
 | [],_,_,_,_,k,_=>by simp only[Rels]at k;subst k;simp[Rels]
 | a :: as,_,i,a',v',k,h=>by
  simp only[Rels]at k
  obtain ⟨x,xs,rfl,h2,h3⟩:=k
  cases i with
  | zero=>simp only[List.set_cons_zero,Rels];exact ⟨v',xs,rfl,h,h3⟩
  | succ i=>simp only[List.set_cons_succ,Rels];exact ⟨x,_,rfl,h2,Rels.set h3 h⟩
theorem Rels.take{σ:Nat→Option Nat}:∀{as:List AV} {vs:List Value} (n:Nat),Rels σ as vs→Rels σ (as.take n) (vs.take n)
 | [],_,n,k=>by simp only[Rels]at k;subst k;simp[Rels]
 | a :: as,_,n,k=>by
  simp only[Rels]at k
  obtain ⟨x,xs,rfl,h2,h3⟩:=k
  cases n with
  | zero=>simp[Rels]
  | succ n=>simp only[List.take_succ_cons,Rels];exact ⟨x,_,rfl,h2,Rels.take n h3⟩
theorem Rels.drop{σ:Nat→Option Nat}:∀{as:List AV} {vs:List Value} (n:Nat),Rels σ as vs→Rels σ (as.drop n) (vs.drop n)
 | [],_,n,k=>by simp only[Rels]at k;subst k;simp[Rels]
 | a :: as,_,n,k=>by
  cases n with
  | zero=>simpa using k
  | succ n =>
   simp only[Rels]at k
   obtain ⟨x,xs,rfl,h2,h3⟩:=k
   simpa using Rels.drop n h3
inductive Con where
 | av (a:AV)
 | row (elem:TypeId) (cells:List AV)
 | obj (o:Obj)
inductive Loc where
 | tmp (t:Nat)
 | blk (b:Nat)
 deriving DecidableEq
abbrev U:=Loc→Option Con
def upd1(u:U)(l:Loc)(c:Con):U:=fun l'=>if l'=l then some c else u l'
def upd(u:U):List (Loc×Con)→U
 | []=>u
 | (l,c) :: r=>upd1 (upd u r) l c
def Sub(u' u:U):Prop:=∀l c,u' l=some c→u l=some c
theorem Sub.refl(u:U):Sub u u:=fun _ _ h=>h
theorem Sub.trans{a b c:U}(h:Sub a b)(k:Sub b c):Sub a c:=fun _ _ x=>k _ _ (h _ _ x)
theorem Sub.upd1{u' u:U}(h:Sub u' u)(l:Loc)(c:Con):Sub (Ab.upd1 u' l c) (Ab.upd1 u l c):=by
 intro l' c' h'
 unfold Ab.upd1 at *
 split
 ·rename_i e;rw[if_pos e]at h';exact h'
 ·rename_i e;rw[if_neg e]at h';exact h _ _ h'
theorem Sub.upd{u' u:U}(h:Sub u' u)(wr:List (Loc×Con)):Sub (Ab.upd u' wr) (Ab.upd u wr):=by
 induction wr with
 | nil=>exact h
 | cons x wr ih=>exact Sub.upd1 ih x.1 x.2
theorem Y0n(u:U)(wr:List (Loc×Con))(l:Loc):upd u wr l=match wr.find? (fun p=>decide (p.1=l)) with | some p=>some p.2 | none=>u l:=by
 induction wr with
 | nil=>rfl
 | cons x wr ih =>
  simp only[upd,upd1,List.find?_cons]
  by_cases e:l=x.1
  ·simp[e]
  ·rw[if_neg e,ih]
   have:decide (x.1=l)=false:=by simp;exact fun h=>e h.symm
   simp[this]
theorem K0b(u:U)(wr:List (Loc×Con))(l:Loc)(h:∀p∈wr,p.1≠l):upd u wr l=u l:=by
 rw[Y0n]
 have:wr.find? (fun p=>decide (p.1=l))=none:=by simpa using h
 rw[this]
theorem Z1m(u u':U)(wr:List (Loc×Con))(l:Loc)(h:∃p∈wr,p.1=l):upd u wr l=upd u' wr l:=by
 rw[Y0n,Y0n]
 cases hf:wr.find? (fun p=>decide (p.1=l)) with
 | some p=>rfl
 | none =>
  obtain ⟨p,hp,e⟩:=h
  have :=List.find?_eq_none.1 hf p hp
  simp[e]at this
theorem Z1h(u:U)(x y:List (Loc×Con))(h:∀p∈x,∀q∈y,p.1≠q.1):upd (upd u x) y=upd (upd u y) x:=by
 funext l
 by_cases hx:∃p∈x,p.1=l
 ·have hy:∀q∈y,q.1≠l:=fun q hq e=>by
   obtain ⟨p,hp,e1⟩:=hx
   exact h p hp q hq (e1.trans e.symm)
  rw[K0b _ y l hy,Z1m u (upd u y) x l hx]
 ·have hx':∀p∈x,p.1≠l:=fun p hp e=>hx ⟨p,hp,e⟩
  rw[K0b _ x l hx']
  by_cases hy:∃q∈y,q.1=l
  ·exact Z1m _ _ y l hy
  ·have hy':∀q∈y,q.1≠l:=fun q hq e=>hy ⟨q,hq,e⟩
   rw[K0b _ y l hy',K0b _ y l hy',K0b _ x l hx']
def kvOf(e:MapEntry):Value×Value:=(e.key,e.val)
def G0h:List Value→List (Value×Value)
 | k :: v :: r=>(k,v) :: G0h r
 | _=>[]
def D0u:List Value→List (Value×Value)
 | k :: .bool p :: v :: r=>bif p then (k,v) :: D0u r else D0u r
 | _=>[]
def Den:Obj→Obj→Prop
 | .chan 0 buf _ _ _ _,o=>∃es c,o=.map es c∧∀p,p∈es.toList.map kvOf↔p∈G0h buf.toList
 | .chan (_+1) buf _ _ _ _,o=>∃es c,o=.map es c∧(es.toList.map kvOf).Perm (D0u buf.toList)
 | ob,o=>o=ob
structure Fits(N:Nat)(w0:World)(own:Nat→Prop)(σ:Nat→Option Nat)(u:U)(a:Act)(w:World):Prop where
 defers:a.defers=[]
 size:a.tmps.size=N
 tmp:∀t v,u (.tmp t)=some (.av v)→∃x,a.tmps[t]?=some x∧Rel σ v x
 row:∀b e cs,u (.blk b)=some (.row e cs)→∃r vs,σ b=some r∧w.heap[r]?=some (.cells (List.toArray vs) e (0,0))∧Rels σ cs vs
 obj:∀b o,u (.blk b)=some (.obj o)→∃r o',σ b=some r∧w.heap[r]?=some o'∧Den o o'
 inj:∀b b' r,σ b=some r→σ b'=some r→b=b'
 bound:∀b r,σ b=some r→r<w.heap.size
 ownsR:∀b e cs r,u (.blk b)=some (.row e cs)→σ b=some r→own r∨w0.heap.size≤r
 ownsO:∀b o r,u (.blk b)=some (.obj o)→σ b=some r→own r∨w0.heap.size≤r
 os:w.os=w0.os
 tape:w.tape=w0.tape
 output:w.output=w0.output
 grown:w0.heap.size≤w.heap.size
 frame:∀k,k<w0.heap.size→¬ own k→w.heap[k]?=w0.heap[k]?
theorem Fits.sub{N:Nat}{w0:World}{own:Nat→Prop}{σ:Nat→Option Nat}{u u':U}{a:Act}{w:World}(h:Fits N w0 own σ u a w)(hs:Sub u' u):Fits N w0 own σ u' a w :=
 {h with tmp:=fun t v k=>h.tmp t v (hs _ _ k),row:=fun b e cs k=>h.row b e cs (hs _ _ k),obj:=fun b o k=>h.obj b o (hs _ _ k),ownsR:=fun b e cs r k=>h.ownsR b e cs r (hs _ _ k),ownsO:=fun b o r k=>h.ownsO b o r (hs _ _ k)}
theorem Fits.drew{N:Nat}{w0:World}{own:Nat→Prop}{σ:Nat→Option Nat}{u:U}{a:Act}{w:World}(h:Fits N w0 own σ u a w):Fits N w0 own σ u a {w with drawn:=w.drawn+1} :=
 ⟨h.defers,h.size,h.tmp,h.row,h.obj,h.inj,h.bound,h.ownsR,h.ownsO,h.os,h.tape,h.output,h.grown,h.frame⟩
theorem Fits.put{N:Nat}{w0:World}{own:Nat→Prop}{σ:Nat→Option Nat}{u:U}{a:Act}{w:World}(h:Fits N w0 own σ u a w){d:Nat}(hd:d<N){v:AV}{x:Value}(hv:Rel σ v x) :
  Fits N w0 own σ (upd1 u (.tmp d) (.av v)) (a.put (some d) x) w:=by
 refine ⟨h.defers,by simp[Act.put,h.size],fun t v' k=>?_,fun b e cs k=>h.row b e cs (by simpa[upd1]using k),fun b o k=>h.obj b o (by simpa[upd1]using k),h.inj,h.bound,fun b e cs r k=>h.ownsR b e cs r (by simpa[upd1]using k),fun b o r k=>h.ownsO b o r (by simpa[upd1]using k),h.os,h.tape,h.output,h.grown,h.frame⟩
 by_cases e:t=d
 ·subst e
  simp[upd1]at k
  subst k
  refine ⟨x,?_,hv⟩
  simp[Act.put,h.size,hd]
 ·simp[upd1,e]at k
  obtain ⟨y,hy,hr⟩:=h.tmp t v' k
  refine ⟨y,?_,hr⟩
  simp only[Act.put]
  rw[Array.getElem?_setIfInBounds_ne (Ne.symm e)]
  exact hy
theorem Fits.alloc{N:Nat}{w0:World}{own:Nat→Prop}{σ:Nat→Option Nat}{u:U}{a:Act}{w:World}(h:Fits N w0 own σ u a w){b:Nat}(hb:σ b=none){e:TypeId}{cs:List AV}{vs:List Value}(hv:Rels σ cs vs) :
  Fits N w0 own (fun x=>if x=b then some w.heap.size else σ x) (upd1 u (.blk b) (.row e cs)) a (w.alloc (.cells (List.toArray vs) e))∧Le σ (fun x=>if x=b then some w.heap.size else σ x):=by
 have hle:Le σ (fun x=>if x=b then some w.heap.size else σ x):=by
  intro x r hx
  show (if x=b then _ else _)=_
  rw[if_neg (fun e=>by rw[e,hb]at hx;cases hx)]
  exact hx
 refine ⟨⟨h.defers,h.size,fun t v' k=>?_,fun b' e' cs' k=>?_,fun b' o k=>?_,fun x y r hx hy=>?_,fun x r hx=>?_,fun b' e' cs' r k hx=>?_,fun b' o r k hx=>?_,h.os,h.tape,h.output,by simp;have :=h.grown;omega,fun k hk hn=>?_⟩,hle⟩
 ·obtain ⟨y,hy,hr⟩:=h.tmp t v' (by simpa[upd1]using k)
  exact ⟨y,hy,Rel.mono hle _ _ hr⟩
 ·by_cases e1:b'=b
  ·subst e1
   simp[upd1]at k
   obtain ⟨rfl,rfl⟩:=k
   exact ⟨w.heap.size,vs,by simp,heap_alloc_new w _,Rels.mono hle _ _ hv⟩
  ·obtain ⟨r,vs',h1,h2,h3⟩:=h.row b' e' cs' (by simpa[upd1,e1]using k)
   refine ⟨r,vs',hle _ _ h1,?_,Rels.mono hle _ _ h3⟩
   rw[heap_alloc_old w _ (h.bound _ _ h1)]
   exact h2
 ·by_cases e1:b'=b
  ·subst e1
   simp[upd1]at k
  ·obtain ⟨r,o',h1,h2,h3⟩:=h.obj b' o (by simpa[upd1,e1]using k)
   refine ⟨r,o',hle _ _ h1,?_,h3⟩
   rw[heap_alloc_old w _ (h.bound _ _ h1)]
   exact h2
 ·skip
  split at hx<;>split at hy
  ·simp_all
  ·simp at hx;have :=h.bound _ _ hy;omega
  ·simp at hy;have :=h.bound _ _ hx;omega
  ·exact h.inj _ _ _ hx hy
 ·skip
  split at hx
  ·simp at hx;subst hx;simp
  ·have :=h.bound _ _ hx;simp;omega
 ·by_cases e1:b'=b
  ·subst e1
   simp at hx;subst hx;exact .inr h.grown
  ·rw[if_neg e1]at hx
   exact h.ownsR b' e' cs' r (by simpa[upd1,e1]using k) hx
 ·by_cases e1:b'=b
  ·subst e1
   simp at hx;subst hx;exact .inr h.grown
  ·rw[if_neg e1]at hx
   exact h.ownsO b' o r (by simpa[upd1,e1]using k) hx
 ·rw[heap_alloc_old w _ (by have :=h.grown;omega)]
  exact h.frame k hk hn
theorem Fits.setRow{N:Nat}{w0:World}{own:Nat→Prop}{σ:Nat→Option Nat}{u:U}{a:Act}{w:World}(h:Fits N w0 own σ u a w){b:Nat}{r:Nat}(hb:σ b=some r){e:TypeId}{cs cs0:List AV}{vs vs0:List Value}(hu:u (.blk b)=some (.row e cs0))
  (hr:w.heap[r]?=some (.cells (List.toArray vs0) e (0,0))) (hv:Rels σ cs vs) :
  Fits N w0 own σ (upd1 u (.blk b) (.row e cs)) a (w.setRow r (List.toArray vs)):=by
 refine ⟨h.defers,h.size,fun t v' k=>h.tmp t v' (by simpa[upd1]using k),fun b' e' cs' k=>?_,fun b' o k=>?_,h.inj,fun x y hx=>by simpa using h.bound x y hx,fun b' e' cs' r' k hx=>?_,fun b' o r' k hx=>?_,by simpa using h.os,by simpa using h.tape,by simpa using h.output,by simpa using h.grown,fun k hk hn=>?_⟩
 ·by_cases e1:b'=b
  ·subst e1
   simp[upd1]at k
   obtain ⟨rfl,rfl⟩:=k
   exact ⟨r,vs,hb,setRow_heap w r _ _ _ _ hr,hv⟩
  ·obtain ⟨r',vs',h1,h2,h3⟩:=h.row b' e' cs' (by simpa[upd1,e1]using k)
   refine ⟨r',vs',h1,?_,h3⟩
   rw[setRow_other w r r' _ (fun e2=>e1 (h.inj _ _ _ h1 (e2 ▸ hb)))]
   exact h2
 ·by_cases e1:b'=b
  ·subst e1
   simp[upd1]at k
  ·obtain ⟨r',o',h1,h2,h3⟩:=h.obj b' o (by simpa[upd1,e1]using k)
   refine ⟨r',o',h1,?_,h3⟩
   rw[setRow_other w r r' _ (fun e2=>e1 (h.inj _ _ _ h1 (e2 ▸ hb)))]
   exact h2
 ·by_cases e1:b'=b
  ·subst e1;exact h.ownsR _ _ _ _ hu hx
  ·exact h.ownsR b' e' cs' r' (by simpa[upd1,e1]using k) hx
 ·by_cases e1:b'=b
  ·subst e1;exact h.ownsR _ _ _ _ hu hx
  ·exact h.ownsO b' o r' (by simpa[upd1,e1]using k) hx
 ·by_cases e1:k=r
  ·subst e1
   rcases h.ownsR _ _ _ _ hu hb with h1 | h1
   ·exact absurd h1 hn
   ·omega
  ·rw[setRow_other w r k _ e1]
   exact h.frame k hk hn
theorem Fits.allocO{N:Nat}{w0:World}{own:Nat→Prop}{σ:Nat→Option Nat}{u:U}{a:Act}{w:World}(h:Fits N w0 own σ u a w){b:Nat}(hb:σ b=none)(ob:Obj)(hd:Den ob ob) :
  Fits N w0 own (fun x=>if x=b then some w.heap.size else σ x) (upd1 u (.blk b) (.obj ob)) a (w.alloc ob)∧Le σ (fun x=>if x=b then some w.heap.size else σ x):=by
 have hle:Le σ (fun x=>if x=b then some w.heap.size else σ x):=by
  intro x r hx
  show (if x=b then _ else _)=_
  rw[if_neg (fun e=>by rw[e,hb]at hx;cases hx)]
  exact hx
 refine ⟨⟨h.defers,h.size,fun t v' k=>?_,fun b' e' cs' k=>?_,fun b' o k=>?_,fun x y r hx hy=>?_,fun x r hx=>?_,fun b' e' cs' r k hx=>?_,fun b' o r k hx=>?_,h.os,h.tape,h.output,by simp;have :=h.grown;omega,fun k hk hn=>?_⟩,hle⟩
 ·obtain ⟨y,hy,hr⟩:=h.tmp t v' (by simpa[upd1]using k)
  exact ⟨y,hy,Rel.mono hle _ _ hr⟩
 ·by_cases e1:b'=b
  ·subst e1
   simp[upd1]at k
  ·obtain ⟨r,vs',h1,h2,h3⟩:=h.row b' e' cs' (by simpa[upd1,e1]using k)
   refine ⟨r,vs',hle _ _ h1,?_,Rels.mono hle _ _ h3⟩
   rw[heap_alloc_old w _ (h.bound _ _ h1)]
   exact h2
 ·by_cases e1:b'=b
  ·subst e1
   simp[upd1]at k
   subst k
   exact ⟨w.heap.size,_,by simp,heap_alloc_new w _,hd⟩
  ·obtain ⟨r,o',h1,h2,h3⟩:=h.obj b' o (by simpa[upd1,e1]using k)
   refine ⟨r,o',hle _ _ h1,?_,h3⟩
   rw[heap_alloc_old w _ (h.bound _ _ h1)]
   exact h2
 ·skip
  split at hx<;>split at hy
  ·simp_all
  ·simp at hx;have :=h.bound _ _ hy;omega
  ·simp at hy;have :=h.bound _ _ hx;omega
  ·exact h.inj _ _ _ hx hy
 ·skip
  split at hx
  ·simp at hx;subst hx;simp
  ·have :=h.bound _ _ hx;simp;omega
 ·by_cases e1:b'=b
  ·subst e1
   simp at hx;subst hx;exact .inr h.grown
  ·rw[if_neg e1]at hx
   exact h.ownsR b' e' cs' r (by simpa[upd1,e1]using k) hx
 ·by_cases e1:b'=b
  ·subst e1
   simp at hx;subst hx;exact .inr h.grown
  ·rw[if_neg e1]at hx
   exact h.ownsO b' o r (by simpa[upd1,e1]using k) hx
 ·rw[heap_alloc_old w _ (by have :=h.grown;omega)]
  exact h.frame k hk hn
theorem Fits.setO{N:Nat}{w0:World}{own:Nat→Prop}{σ:Nat→Option Nat}{u:U}{a:Act}{w:World}(h:Fits N w0 own σ u a w){b:Nat}{r:Nat}(hb:σ b=some r){ob ob0:Obj}(hd:Den ob ob)(hu:u (.blk b)=some (.obj ob0)) :
  Fits N w0 own σ (upd1 u (.blk b) (.obj ob)) a {w with heap:=w.heap.setIfInBounds r ob}:=by
 have hlt:=h.bound _ _ hb
 have other:∀k,k≠r→(w.heap.setIfInBounds r ob)[k]?=w.heap[k]?:=fun k hk=>by rw[Array.getElem?_setIfInBounds_ne (Ne.symm hk)]
 refine ⟨h.defers,h.size,fun t v' k=>h.tmp t v' (by simpa[upd1]using k),fun b' e' cs' k=>?_,fun b' o k=>?_,h.inj,fun x y hx=>by simpa using h.bound x y hx,fun b' e' cs' r' k hx=>?_,fun b' o r' k hx=>?_,h.os,h.tape,h.output,by simpa using h.grown,fun k hk hn=>?_⟩
 ·by_cases e1:b'=b
  ·subst e1
   simp[upd1]at k
  ·obtain ⟨r',vs',h1,h2,h3⟩:=h.row b' e' cs' (by simpa[upd1,e1]using k)
   refine ⟨r',vs',h1,?_,h3⟩
   show (w.heap.setIfInBounds r ob)[r']?=_
   rw[other r' (fun e2=>e1 (h.inj _ _ _ h1 (e2 ▸ hb)))]
   exact h2
 ·by_cases e1:b'=b
  ·subst e1
   simp[upd1]at k
   subst k
   exact ⟨r,_,hb,by show (w.heap.setIfInBounds r ob)[r]?=_;simp[hlt],hd⟩
  ·obtain ⟨r',o',h1,h2,h3⟩:=h.obj b' o (by simpa[upd1,e1]using k)
   refine ⟨r',o',h1,?_,h3⟩
   show (w.heap.setIfInBounds r ob)[r']?=_
   rw[other r' (fun e2=>e1 (h.inj _ _ _ h1 (e2 ▸ hb)))]
   exact h2
 ·by_cases e1:b'=b
  ·subst e1;exact h.ownsO _ _ _ hu hx
  ·exact h.ownsR b' e' cs' r' (by simpa[upd1,e1]using k) hx
 ·by_cases e1:b'=b
  ·subst e1;exact h.ownsO _ _ _ hu hx
  ·exact h.ownsO b' o r' (by simpa[upd1,e1]using k) hx
 ·show (w.heap.setIfInBounds r ob)[k]?=_
  by_cases e1:k=r
  ·subst e1
   rcases h.ownsO _ _ _ hu hb with h1 | h1
   ·exact absurd h1 hn
   ·omega
  ·rw[other k e1]
   exact h.frame k hk hn
theorem Fits.setD{N:Nat}{w0:World}{own:Nat→Prop}{σ:Nat→Option Nat}{u:U}{a:Act}{w:World}(h:Fits N w0 own σ u a w){b:Nat}{r:Nat}(hb:σ b=some r){ob ob1 ob0:Obj}(hd:Den ob ob1)(hu:u (.blk b)=some (.obj ob0)) :
  Fits N w0 own σ (upd1 u (.blk b) (.obj ob)) a {w with heap:=w.heap.setIfInBounds r ob1}:=by
 have hlt:=h.bound _ _ hb
 have other:∀k,k≠r→(w.heap.setIfInBounds r ob1)[k]?=w.heap[k]?:=fun k hk=>by rw[Array.getElem?_setIfInBounds_ne (Ne.symm hk)]
 refine ⟨h.defers,h.size,fun t v' k=>h.tmp t v' (by simpa[upd1]using k),fun b' e' cs' k=>?_,fun b' o k=>?_,h.inj,fun x y hx=>by simpa using h.bound x y hx,fun b' e' cs' r' k hx=>?_,fun b' o r' k hx=>?_,h.os,h.tape,h.output,by simpa using h.grown,fun k hk hn=>?_⟩
 ·by_cases e1:b'=b
  ·subst e1
   simp[upd1]at k
  ·obtain ⟨r',vs',h1,h2,h3⟩:=h.row b' e' cs' (by simpa[upd1,e1]using k)
   refine ⟨r',vs',h1,?_,h3⟩
   show (w.heap.setIfInBounds r ob1)[r']?=_
   rw[other r' (fun e2=>e1 (h.inj _ _ _ h1 (e2 ▸ hb)))]
   exact h2
 ·by_cases e1:b'=b
  ·subst e1
   simp[upd1]at k
   subst k
   exact ⟨r,_,hb,by show (w.heap.setIfInBounds r ob1)[r]?=_;simp[hlt],hd⟩
  ·obtain ⟨r',o',h1,h2,h3⟩:=h.obj b' o (by simpa[upd1,e1]using k)
   refine ⟨r',o',h1,?_,h3⟩
   show (w.heap.setIfInBounds r ob1)[r']?=_
   rw[other r' (fun e2=>e1 (h.inj _ _ _ h1 (e2 ▸ hb)))]
   exact h2
 ·by_cases e1:b'=b
  ·subst e1;exact h.ownsO _ _ _ hu hx
  ·exact h.ownsR b' e' cs' r' (by simpa[upd1,e1]using k) hx
 ·by_cases e1:b'=b
  ·subst e1;exact h.ownsO _ _ _ hu hx
  ·exact h.ownsO b' o r' (by simpa[upd1,e1]using k) hx
 ·show (w.heap.setIfInBounds r ob1)[k]?=_
  by_cases e1:k=r
  ·subst e1
   rcases h.ownsO _ _ _ hu hb with h1 | h1
   ·exact absurd h1 hn
   ·omega
  ·rw[other k e1]
   exact h.frame k hk hn
def D0e{α:Type}(P:Program):Sem α→Option α
 | .pure a=>some a
 | .program k=>D0e P (k P)
 | .mark _ k=>D0e P k
 | _=>none
theorem A0y{α:Type}{P:Program}{s:Sem α}{a:α}(h:D0e P s=some a)(w:World):s.run P w=.ok a w:=by
 induction s with
 | pure x=>simp[D0e]at h;subst h;rfl
 | program k ih=>exact ih P h
 | mark m k ih=>exact ih h
 | _=>simp[D0e]at h
theorem E0a{P:Program}(w:World)(r off n:Nat)(t:TypeId)(fr:Nat×Nat)(vs xs:List Value)(hr:w.heap[r]?=some (.cells (List.toArray vs) t fr))
  (hx:(vs.drop off).take n=xs) (hn:xs.length=n):(loadCells ⟨r,off,none⟩ n).run P w=.ok xs.toArray w:=by
 subst hn
 refine run_loadCells_list (P:=P) w ⟨r,off,none⟩ xs fun j v hv=>?_
 have hadd:(⟨r,off,none⟩:Addr).add j=⟨r,off+j,none⟩:=by unfold Addr.add;split<;>simp_all
 rw[hadd,cell_of_row w r (off+j) _ t fr hr]
 rw[← hx]at hv
 have:j<xs.length:=by
  rcases Nat.lt_or_ge j xs.length with h | h
  ·exact h
  ·rw[List.getElem?_take,if_neg (by omega)]at hv;cases hv
 rw[List.getElem?_take,if_pos this,List.getElem?_drop]at hv
 simpa using hv
def R0n:TypeDesc→Bool
 | .struct _ | .array _ _=>true
 | _=>false
theorem M0v{P:Program}{t:TypeId}{d:TypeDesc}(h:P.underlying t=some d)(w:World):(isAgg t).run P w=.ok (R0n d) w:=by
 unfold isAgg
 rw[Sem.run_bind,run_underlying h w]
 cases d<;>rfl
theorem B0q{P:Program}{t:TypeId}{i:TypeInfo}(h:P.info? t=some i)(w:World):(sizeOf t).run P w=.ok i.size w:=by
 simp[sizeOf,typeInfo,h]
theorem E0j{P:Program}{t:TypeId}{i:TypeInfo}{z:Value}(h:P.info? t=some i)(hz:i.zero=some z)(w:World):(zeroValue t).run P w=.ok z w:=by
 simp[zeroValue,typeInfo,h,hz]
theorem W1b(w:World)(g:Nat)(cur:Array Value)(t:TypeId)(fr:Nat×Nat)(hg:w.heap[g]?=some (.cells cur t fr)):w.setRow g cur=w:=by
 have hlt:g<w.heap.size:=(Array.getElem?_eq_some_iff.1 hg).1
 have hv:w.heap[g]=.cells cur t fr:=(Array.getElem?_eq_some_iff.1 hg).2
 unfold World.setRow
 cases w with
 | mk heap tape drawn os output =>
  congr 1
  apply Array.ext
  ·simp
  ·intro k h1 h2
   simp only[Array.getElem_modify]
   split
   ·rename_i hk;subst hk;simp at hv;simp[hv]
   ·rfl
def splice{α:Type}(cur:List α)(off:Nat)(new:List α):List α:=cur.take off++new++cur.drop (off+new.length)
theorem H0g{P:Program}(r:Nat)(t:TypeId):∀(vs:List Value) (off i:Nat) (cur:List Value) (w:World),w.heap[r]?=some (.cells (List.toArray cur) t (0,0))→off+i+vs.length≤cur.length→(∀v∈vs,v.oneCell'=true) →
  (storeCells ⟨r,off,none⟩ vs i).run P w=.ok () (w.setRow r (List.toArray (splice cur (off+i) vs)))
 | [],off,i,cur,w,hg,hl,_=>by
  simp only[storeCells,splice,List.append_nil,List.length_nil,Nat.add_zero,List.take_append_drop]
  rw[W1b w r _ t (0,0) hg]
  rfl
 | v :: rest,off,i,cur,w,hg,hl,h1=>by
  have hi:off+i<cur.length:=by simp at hl;omega
  have hadd:(⟨r,off,none⟩:Addr).add i=⟨r,off+i,none⟩:=by unfold Addr.add;split<;>simp_all
  have hcell:w.cell? ⟨r,off+i,none⟩=some cur[off+i]:=by simp[World.cell?,hg,hi]
  have hfro:w.frozen? ⟨r,off+i,none⟩=false:=by simp[World.frozen?,hg]
  have hst:(store ((⟨r,off,none⟩:Addr).add i) v).run P w=.ok () (w.setRow r (List.toArray (cur.set (off+i) v))):=by
   rw[hadd,run_store P w _ v _ (h1 v (by simp)),hcell]
   simp[hfro,setCell_eq_setRow w r (off+i) (List.toArray cur) t (0,0) v hg]
  have ih:=H0g (P:=P) r t rest off (i+1) (cur.set (off+i) v) (w.setRow r (List.toArray (cur.set (off+i) v))) (setRow_heap w r _ _ t _ hg) (by simp at hl ⊢;omega) (fun x hx=>h1 x (by simp[hx]))
  simp only[storeCells,Sem.run_bind,hst,Result.andThen_ok,ih,setRow_setRow]
  congr 3
  unfold splice
  apply List.ext_getElem?
  intro k
  simp only[List.getElem?_append,List.length_append,List.length_take,List.length_cons,List.length_set,List.getElem?_take,List.getElem?_set,List.getElem?_drop]
  have e1:min (off+(i+1)) cur.length=off+i+1:=by simp at hl;omega
  have e2:min (off+i) cur.length=off+i:=by omega
  rw[e1,e2]
  by_cases hk:k<off+i
  ·rw[if_pos (show k<off+i+1+rest.length by omega),if_pos (show k<off+i+1 by omega),if_pos (show k<off+(i+1) by omega),if_neg (show ¬ off+i=k by omega),if_pos (show k<off+i+(rest.length+1) by omega),if_pos hk,if_pos hk]
  ·by_cases hk2:k=off+i
   ·subst hk2
    rw[if_pos (show off+i<off+i+1+rest.length by omega),if_pos (show off+i<off+i+1 by omega),if_pos (show off+i<off+(i+1) by omega),if_pos rfl,if_pos hi,if_pos (show off+i<off+i+(rest.length+1) by omega),if_neg (by omega)]
    simp
   ·by_cases hk3:k<off+i+1+rest.length
    ·rw[if_pos hk3,if_neg (by omega),if_pos (by omega),if_neg (by omega)]
     have:k-(off+i)=(k-(off+i+1))+1:=by omega
     rw[this,List.getElem?_cons_succ]
    ·rw[if_neg hk3,if_neg (by omega),if_neg (by omega)]
     congr 1
     omega
def cellsOf:AV→Option (List AV)
 | .val v=>some (v.cells.toList.map .val)
 | .agg cs=>some cs
 | .any=>none
 | a=>some [a]
def oneA:AV→Bool
 | .val v=>v.oneCell'
 | .agg _ | .tuple _ | .any=>false
 | _=>true
def D0v:List AV→Option (List Value)
 | []=>some []
 | .val v :: r=>match D0v r with | some l=>some (v :: l) | none=>none
 | _ :: _=>none
def L3q(cs:List AV):AV:=match D0v cs with | some l=>.val (.agg (List.toArray l)) | none=>.agg cs
theorem P0k{σ:Nat→Option Nat}:∀{cs:List AV} {l vs:List Value},D0v cs=some l→Rels σ cs vs→vs=l
 | [],l,vs,h,k=>by simp[D0v]at h;simp only[Rels]at k;rw[k,← h]
 | .val v :: r,l,vs,h,k=>by
  simp only[D0v]at h
  simp only[Rels,Rel]at k
  obtain ⟨x,xs,rfl,rfl,h3⟩:=k
  split at h
  ·rename_i l' e;simp at h;subst h;rw[P0k e h3]
  ·cases h
 | .ptr _ _ :: _,l,vs,h,_=>by simp[D0v]at h
 | .slice _ _ _ _ :: _,l,vs,h,_=>by simp[D0v]at h
 | .agg _ :: _,l,vs,h,_=>by simp[D0v]at h
 | .tuple _ :: _,l,vs,h,_=>by simp[D0v]at h
 | .func _ _ _ :: _,l,vs,h,_=>by simp[D0v]at h
 | .map _ :: _,l,vs,h,_=>by simp[D0v]at h
 | .any :: _,l,vs,h,_=>by simp[D0v]at h
theorem L2e{σ:Nat→Option Nat}{cs:List AV}{vs:List Value}(h:Rels σ cs vs):Rel σ (L3q cs) (.agg (List.toArray vs)):=by
 unfold L3q
 split
 ·rename_i l e;simp only[Rel];rw[P0k e h]
 ·simp only[Rel];exact ⟨vs,rfl,h⟩
theorem Y0b{σ:Nat→Option Nat}{a:AV}{v:Value}(h:Rel σ a v){cs:List AV}(hc:cellsOf a=some cs):Rels σ cs v.cells.toList:=by
 cases a<;>simp only[Rel]at h<;>simp only[cellsOf,Option.some.injEq,reduceCtorEq]at hc
 case val x=>subst h;subst hc;exact Rels.vals _
 case agg cs=>obtain ⟨vs,rfl,h⟩:=h;subst hc;simpa[Value.cells]using h
 case ptr b off=>obtain ⟨r,h1,rfl⟩:=h;subst hc;simp[Value.cells,Rels,Rel,h1]
 case slice b off len cap=>obtain ⟨r,h1,rfl⟩:=h;subst hc;simp[Value.cells,Rels,Rel,h1]
 case tuple cs=>obtain ⟨vs,rfl,h⟩:=h;subst hc;simp[Value.cells,Rels,Rel,h]
 case func f a b=>obtain ⟨xs,ys,rfl,h⟩:=h;subst hc;simp only[Rels,Rel];exact ⟨_,[],rfl,⟨xs,ys,rfl,h⟩,rfl⟩
 case map b=>obtain ⟨r,h1,rfl⟩:=h;subst hc;simp[Value.cells,Rels,Rel,h1]
theorem Y2a{σ:Nat→Option Nat}{a:AV}{v:Value}(h:Rel σ a v)(ho:oneA a=true):v.oneCell'=true:=by
 cases a<;>simp only[Rel]at h<;>simp only[oneA]at ho
 case val x=>subst h;exact ho
 case ptr b off=>obtain ⟨r,h1,rfl⟩:=h;rfl
 case slice b off len cap=>obtain ⟨r,h1,rfl⟩:=h;rfl
 case func f a b=>obtain ⟨xs,ys,rfl,h⟩:=h;rfl
 case map b=>obtain ⟨r,h1,rfl⟩:=h;rfl
 all_goals cases ho
theorem B1m{σ:Nat→Option Nat}:∀{as:List AV} {vs:List Value},Rels σ as vs→as.all oneA=true→∀v∈vs,v.oneCell'=true
 | [],vs,k,_=>by simp only[Rels]at k;subst k;simp
 | a :: as,vs,k,ho=>by
  simp only[Rels]at k
  obtain ⟨x,xs,rfl,h2,h3⟩:=k
  simp only[List.all_cons,Bool.and_eq_true]at ho
  intro v hv
  rcases List.mem_cons.1 hv with rfl | hv
  ·exact Y2a h2 ho.1
  ·exact B1m h3 ho.2 v hv
def W2m(P:Program)(t:TypeId)(cells:List AV)(off:Nat):Option AV :=
 match P.underlying t,P.info? t with
 | some d,some i=>match R0n d with
  | true=>let cs:=(cells.drop off).take i.size;if cs.length=i.size then some (L3q cs) else none
  | false=>cells[off]?
 | _,_=>none
theorem P1b{P:Program}{σ:Nat→Option Nat}{t:TypeId}{cells:List AV}{off:Nat}{a:AV}(h:W2m P t cells off=some a){w:World}{r:Nat}{vs:List Value}{e:TypeId}{fr:Nat×Nat}
  (hr:w.heap[r]?=some (.cells (List.toArray vs) e fr)) (hv:Rels σ cells vs):∃v,(loadVar t ⟨r,off,none⟩).run P w=.ok v w∧Rel σ a v:=by
 unfold W2m at h
 split at h
 ·rename_i d i hd hi
  split at h
  ·rename_i hagg
   simp only at h
   split at h
   ·rename_i hlen
    cases h
    have hv':=Rels.take i.size (Rels.drop off hv)
    refine ⟨.agg (List.toArray ((vs.drop off).take i.size)),?_,L2e hv'⟩
    unfold loadVar
    rw[Sem.run_bind,M0v hd w,hagg]
    simp only[Result.andThen_ok,if_true,Sem.run_bind,B0q hi w]
    rw[E0a w r off i.size e fr vs _ hr rfl (by rw[← Rels.length hv'];exact hlen)]
    rfl
   ·cases h
  ·rename_i hagg
   obtain ⟨v,h1,h2⟩:=Rels.get hv h
   refine ⟨v,?_,h2⟩
   unfold loadVar
   rw[Sem.run_bind,M0v hd w,hagg]
   simp only[Result.andThen_ok,Bool.false_eq_true,if_false,run_load]
   rw[cell_of_row w r off _ e fr hr]
   simp[h1]
 ·cases h
def R2h(P:Program)(t:TypeId)(cells:List AV)(off:Nat)(a:AV):Option (List AV) :=
 match P.info? t with
 | some i=>match cellsOf a with
  | some cs=>if cs.length=i.size∧off+cs.length≤cells.length∧cs.all oneA=true then some (splice cells off cs) else none
  | none=>none
 | none=>none
theorem Rels.splice{σ:Nat→Option Nat}{cells new:List AV}{vs xs:List Value}{off:Nat}(h:Rels σ cells vs)(k:Rels σ new xs):Rels σ (Ab.splice cells off new) (Ab.splice vs off xs):=by
 unfold Ab.splice
 rw[Rels.length k]
 exact Rels.append (Rels.append (Rels.take _ h) k) (Rels.drop _ h)
theorem B2y{P:Program}{σ:Nat→Option Nat}{t:TypeId}{cells cells':List AV}{off:Nat}{a:AV}{v:Value}(h:R2h P t cells off a=some cells')(ha:Rel σ a v){w:World}{r:Nat}{vs:List Value}{e:TypeId}
  (hr:w.heap[r]?=some (.cells (List.toArray vs) e (0,0))) (hv:Rels σ cells vs) :
  ∃vs',(storeVar t ⟨r,off,none⟩ v).run P w=.ok () (w.setRow r (List.toArray vs'))∧Rels σ cells' vs':=by
 unfold R2h at h
 split at h
 ·rename_i i hi
  split at h
  ·rename_i cs hcc
   split at h
   ·rename_i hc
    obtain ⟨h1,h2,h3⟩:=hc
    cases h
    have hcs:=Y0b ha hcc
    refine ⟨Ab.splice vs off v.cells.toList,?_,Rels.splice hv hcs⟩
    have hl:=Rels.length hcs
    unfold storeVar
    rw[Sem.run_bind,B0q hi w]
    simp only[Result.andThen_ok]
    have e1:v.cells.size=i.size:=by rw[← h1,hl];simp
    rw[if_neg (by simp[e1])]
    have :=H0g (P:=P) r e v.cells.toList off 0 vs w hr (by rw[← hl,← Rels.length hv];simpa using h2) (B1m hcs h3)
    simpa using this
   ·cases h
  ·cases h
 ·cases h
def eqL(P:Program)(cmp:TypeId→Value→Value→Option Bool)(xs ys:Array Value):List (TypeId×Nat)→Option Bool
 | []=>some true
 | (t,o) :: r=>match D0e P (part t xs o),D0e P (part t ys o) with
  | some a,some b=>match cmp t a b,eqL P cmp xs ys r with
   | some p,some q=>some (p&&q)
   | _,_=>none
  | _,_=>none
def eqT(P:Program):Nat→TypeId→Value→Value→Option Bool
 | 0,_,_,_=>none
 | n+1,t,x,y=>match P.underlying t,x,y with
  | some .bool,.bool a,.bool b=>some (a==b)
  | some (.int _),.int k a,.int k' b=>match decide (k=k') with | true=>some (a==b) | false=>none
  | some .string,.string a,.string b=>some (a==b)
  | some (.struct fs), .agg xs, .agg ys => match P.stoodInHeld t, fs.toList.all fun f => f.name != "_" with
   | false,true=>eqL P (eqT P n) xs ys (fs.toList.map fun f=>(f.type,f.offset))
   | _,_=>none
  | some (.array m e),.agg xs,.agg ys=>match P.info? e with
   | some _=>eqL P (eqT P n) xs ys ((List.range m).map fun i=>(e,i*P.cellsOf e))
   | none=>none
  | _,_,_=>none
section
variable {P:Program}
theorem R0u{d:Nat}{cmp:TypeId→Value→Value→Option Bool}(hc:∀t x y r w,cmp t x y=some r→(Op.equalIn d t x y).run P w=.ok r w)(xs ys:Array Value)(w:World) :
  ∀ (fs : List Field) (r : Bool), (fs.all fun f => f.name != "_") = true → eqL P cmp xs ys (fs.map fun f => (f.type, f.offset)) = some r → (Op.eqFields d xs ys fs).run P w = .ok r w
 | [],r,_,h=>by simp only[List.map_nil,eqL,Option.some.injEq]at h;subst h;simp[Op.eqFields]
 | f :: fs,r,hn,h=>by
  simp only[List.all_cons,Bool.and_eq_true,bne_iff_ne,ne_eq]at hn
  simp only[List.map_cons,eqL]at h
  split at h
  ·rename_i a b ha hb
   split at h
   ·rename_i p q hp hq
    cases h
    have ih:=R0u hc xs ys w fs q hn.2 hq
    simp only[Op.eqFields,hn.1,ne_eq,not_false_eq_true,if_true,Sem.run_bind,A0y ha,A0y hb,hc _ _ _ _ _ hp,Result.andThen_ok]
    cases p
    ·simp
    ·simpa using ih
   ·cases h
  ·cases h
theorem V0t{d c:Nat}{e:TypeId}{cmp:TypeId→Value→Value→Option Bool}(hc:∀t x y r w,cmp t x y=some r→(Op.equalIn d t x y).run P w=.ok r w)(xs ys:Array Value)(w:World) :
  ∀(is:List Nat) (r:Bool),eqL P cmp xs ys (is.map fun i=>(e,i*c))=some r→(Op.eqItems d e c xs ys is).run P w=.ok r w
 | [],r,h=>by simp only[List.map_nil,eqL,Option.some.injEq]at h;subst h;simp[Op.eqItems]
 | i :: is,r,h=>by
  simp only[List.map_cons,eqL]at h
  split at h
  ·rename_i a b ha hb
   split at h
   ·rename_i p q hp hq
    cases h
    have ih:=V0t hc xs ys w is q hq
    simp only[Op.eqItems,Sem.run_bind,A0y ha,A0y hb,hc _ _ _ _ _ hp,Result.andThen_ok]
    cases p
    ·simp
    ·simpa using ih
   ·cases h
  ·cases h
theorem Q0k:∀(n d:Nat) (t:TypeId) (x y:Value) (r:Bool) (w:World),n≤d→eqT P n t x y=some r→(Op.equalIn d t x y).run P w=.ok r w
 | 0,_,_,_,_,_,_,_,h=>by simp[eqT]at h
 | n+1,0,_,_,_,_,_,hd,_=>by omega
 | n+1,d+1,t,x,y,r,w,hd,h=>by
  have IH:∀t x y r w,eqT P n t x y=some r→(Op.equalIn d t x y).run P w=.ok r w:=fun t x y r w h=>Q0k n d t x y r w (by omega) h
  unfold eqT at h
  split at h
  ·rename_i hu
   cases h
   exact run_equalIn_bool' w d t _ _ hu
  ·rename_i hu
   split at h
   ·rename_i hk
    have hk:=of_decide_eq_true hk
    subst hk
    cases h
    exact run_equalIn_int w d t _ _ _ _ hu
   ·cases h
  ·rename_i hu
   cases h
   rw[beq_toListBytes]
   exact run_equalIn_string w d t _ _ hu
  ·rename_i fs xs ys hu
   split at h
   ·rename_i hs hn
    have hfs:P.fieldsOf t=fs:=by simp[Program.fieldsOf,hu]
    rw[run_equalIn_struct w d t xs ys (by rw[hfs];exact hu) hs,hfs]
    exact R0u IH xs ys w _ r hn h
   ·cases h
  ·rename_i m e xs ys hu
   split at h
   ·rename_i i hi
    rw[run_equalIn_array w d xs ys hu hi]
    exact V0t IH xs ys w _ r h
   ·cases h
  ·cases h
end
abbrev Wr:=List (Loc×Con)
abbrev Hp:=List (Nat×Con)
def Exec(P:Program)(N:Nat)(ops:Array Oper)(i:Nat)(rd wr:Wr)(lo hi:Nat):Prop :=
 ∀(Q:Exit→Act→World→Prop) (w0:World) (own:Nat→Prop) (σ:Nat→Option Nat) (u:U) (a:Act) (w:World),Fits N w0 own σ u a w→(∀x∈rd,u x.1=some x.2)→(∀b,lo≤b→b<hi→σ b=none) →
  ∀K:Act→World→Prop,(∀σ' a' w',Le σ σ'→(∀b,σ b=none→(b<lo∨hi≤b)→σ' b=none)→Fits N w0 own σ' (upd u wr) a' w'→K a' w')→wpOp P ops Q i K a w
theorem M0m{P:Program}{N:Nat}{ops:Array Oper}{i:Nat}{rd wr:Wr}{lo hi:Nat}{o:Oper}(ho:ops[i]?=some o)
  (hwant:∀w0 own σ u a w,Fits N w0 own σ u a w→(∀x∈rd,u x.1=some x.2)→Region.wanted o (yielded ops a.tmps)=true)
  (h:∀(Q:Exit→Act→World→Prop) w0 own σ u a w,Fits N w0 own σ u a w→(∀x∈rd,u x.1=some x.2)→(∀b,lo≤b→b<hi→σ b=none) →
   ∀K:Act→World→Prop,(∀σ' a' w',Le σ σ'→(∀b,σ b=none→(b<lo∨hi≤b)→σ' b=none)→Fits N w0 own σ' (upd u wr) a' w'→K a' w')→o.wp P a w K Q) :
  Exec P N ops i rd wr lo hi:=by
 intro Q w0 own σ u a w hf hr hn K hK
 unfold wpOp
 rw[ho]
 simp only
 rw[if_pos (hwant w0 own σ u a w hf hr)]
 exact .inl (h Q w0 own σ u a w hf hr hn K hK)
def opd(tmps:List AV):Operand→Option AV
 | .tmp t=>tmps[t]?
 | .const v=>some (.val v)
 | .func f=>some (.func f [] [])
 | .global _=>none
def rdOf(tmps:List AV):Operand→Wr
 | .tmp t=>match tmps[t]? with | some a=>[(.tmp t,.av a)] | none=>[]
 | _=>[]
def D0q(tmps:List AV)(o:Oper):Wr:=o.op.operands.toList.flatMap (rdOf tmps)
theorem A0n{N:Nat}{w0:World}{own:Nat→Prop}{σ:Nat→Option Nat}{u:U}{a:Act}{w:World}(hf:Fits N w0 own σ u a w){tmps:List AV}{x:Operand}{r:AV}
  (hr:∀p∈rdOf tmps x,u p.1=some p.2) (h:opd tmps x=some r):Rel σ r (a.eval x):=by
 cases x with
 | tmp t =>
  simp only[opd]at h
  have h1:=hr (.tmp t,.av r) (by simp[rdOf,h])
  obtain ⟨y,hy,hrel⟩:=hf.tmp t r h1
  simpa[Act.eval,hy]using hrel
 | const v=>simp only[opd,Option.some.injEq]at h;subst h;simp[Rel,Act.eval]
 | func f=>simp only[opd,Option.some.injEq]at h;subst h;simp only[Rel,Act.eval];exact ⟨[],[],rfl,by simp[Rels],by simp[Rels]⟩
 | global g=>simp[opd]at h
theorem P2t{u:U}{tmps:List AV}{o:Oper}(h:∀p∈D0q tmps o,u p.1=some p.2){x:Operand}(hx:x∈o.op.operands):∀p∈rdOf tmps x,u p.1=some p.2 :=
 fun p hp=>h p (List.mem_flatMap.2 ⟨x,by simpa using hx,hp⟩)
def D1g(tmps:List AV)(x:Operand):Value:=match opd tmps x with | some (.val v)=>v | _=>undef
def U1b(tmps:List AV)(x:Operand):Bool:=match opd tmps x with | some (.val _)=>true | _=>false
theorem D1h{N:Nat}{w0:World}{own:Nat→Prop}{σ:Nat→Option Nat}{u:U}{a:Act}{w:World}(hf:Fits N w0 own σ u a w){tmps:List AV}{x:Operand}
  (hr:∀p∈rdOf tmps x,u p.1=some p.2) (h:U1b tmps x=true):a.eval x=D1g tmps x:=by
 unfold U1b at h
 split at h
 ·rename_i v e
  have :=A0n hf hr e
  simp only[Rel]at this
  rw[this]
  simp[D1g,e]
 ·cases h
def L3u:Op→Bool | .select ..=>false | _=>true
theorem V2h{N:Nat}{w0:World}{own:Nat→Prop}{σ:Nat→Option Nat}{u:U}{a:Act}{w:World}(hf:Fits N w0 own σ u a w){tmps:List AV}{o:Oper}
  (hr:∀p∈D0q tmps o,u p.1=some p.2) (hs:L3u o.op=true) (h:o.op.operands.toList.all (U1b tmps)=true):execOp a.eval o=execOp (D1g tmps) o:=by
 refine execOp_congr o (fun cs b e=>by simp[e,L3u]at hs) fun x hx=>?_
 exact D1h hf (P2t hr hx) (List.all_eq_true.1 h x (by simpa using hx))
variable {β:Type}
def fin(N:Nat)(o:Oper)(rd:Wr)(r:AV)(extra:Wr)(K:Wr→Wr→Option β):Option β :=
 match o.dst with
 | some d=>match decide (d<N) with | true=>K rd ((.tmp d,.av r) :: extra) | false=>none
 | none=>K rd extra
theorem N1g{P:Program}{N:Nat}{ops:Array Oper}{i:Nat}{rd extra:Wr}{lo hi:Nat}{o:Oper}(ho:ops[i]?=some o){r:AV}{K:Wr→Wr→Option β}{res:β}
  (h:fin N o rd r extra K=some res)
  (hwant:∀w0 own σ u a w,Fits N w0 own σ u a w→(∀x∈rd,u x.1=some x.2)→Region.wanted o (yielded ops a.tmps)=true)
  (hrun:∀(Q:Exit→Act→World→Prop) w0 own σ u a w,Fits N w0 own σ u a w→(∀x∈rd,u x.1=some x.2)→(∀b,lo≤b→b<hi→σ b=none) →
   ∀K:Act→World→Prop,(∀σ' x w',Le σ σ'→(∀b,σ b=none→(b<lo∨hi≤b)→σ' b=none)→Fits N w0 own σ' (upd u extra) a w'→Rel σ' r x→K (a.put o.dst x) w')→o.wp P a w K Q) :
  ∃rd' wr,K rd' wr=some res∧rd'=rd∧Exec P N ops i rd' wr lo hi:=by
 unfold fin at h
 split at h
 ·rename_i d hd
  split at h
  ·rename_i hlt
   refine ⟨rd,_,h,rfl,M0m ho hwant fun Q w0 own σ u a w hf hr hn K' hK=>?_⟩
   refine hrun Q w0 own σ u a w hf hr hn K' fun σ' x w' h1 h2 h3 h4=>hK σ' _ w' h1 h2 ?_
   rw[hd]
   exact h3.put (of_decide_eq_true hlt) h4
  ·cases h
 ·rename_i hd
  refine ⟨rd,_,h,rfl,M0m ho hwant fun Q w0 own σ u a w hf hr hn K' hK=>?_⟩
  refine hrun Q w0 own σ u a w hf hr hn K' fun σ' x w' h1 h2 h3 h4=>hK σ' _ w' h1 h2 ?_
  rw[hd]
  exact h3
theorem J0d{P:Program}{N:Nat}{ops:Array Oper}{i:Nat}{rd extra:Wr}{lo hi:Nat}{o:Oper}(ho:ops[i]?=some o){r:AV}{K:Wr→Wr→Option β}{res:β}
  (h:fin N o rd r extra K=some res)
  (hwant:∀w0 own σ u a w,Fits N w0 own σ u a w→(∀x∈rd,u x.1=some x.2)→Region.wanted o (yielded ops a.tmps)=true)
  (hrun:∀w0 own σ u a w,Fits N w0 own σ u a w→(∀x∈rd,u x.1=some x.2)→(∀b,lo≤b→b<hi→σ b=none) →
   ∃σ' x w',(execOp a.eval o).run P w=.ok (.value x) w'∧Le σ σ'∧(∀b,σ b=none→(b<lo∨hi≤b)→σ' b=none)∧Fits N w0 own σ' (upd u extra) a w'∧Rel σ' r x) :
  ∃rd' wr,K rd' wr=some res∧rd'=rd∧Exec P N ops i rd' wr lo hi:=by
 refine N1g ho h hwant fun Q w0 own σ u a w hf hr hn K' hK=>?_
 obtain ⟨σ',x,w',h1,h2,h3,h4,h5⟩:=hrun w0 own σ u a w hf hr hn
 unfold Oper.wp
 rw[h1]
 exact hK σ' x w' h2 h3 h4 h5
theorem G2b{P:Program}{N:Nat}{ops:Array Oper}{i:Nat}{rd:Wr}{lo hi:Nat}{o:Oper}(ho:ops[i]?=some o){r:AV}{K:Wr→Wr→Option β}{res:β}
  (h:fin N o rd r [] K=some res)
  (hwant:∀w0 own σ u a w,Fits N w0 own σ u a w→(∀x∈rd,u x.1=some x.2)→Region.wanted o (yielded ops a.tmps)=true)
  (hrun:∀w0 own σ u a w,Fits N w0 own σ u a w→(∀x∈rd,u x.1=some x.2)→∃x,(execOp a.eval o).run P w=.ok (.value x) w∧Rel σ r x) :
  ∃rd' wr,K rd' wr=some res∧rd'=rd∧Exec P N ops i rd' wr lo hi :=
 J0d ho h hwant fun w0 own σ u a w hf hr _=>by
  obtain ⟨x,h1,h2⟩:=hrun w0 own σ u a w hf hr
  exact ⟨σ,x,w,h1,Le.refl σ,fun _ h _=>h,hf,h2⟩
def hget:Hp→Nat→Option Con
 | [],_=>none
 | (b',c) :: r,b=>match Nat.beq b' b with | true=>some c | false=>hget r b
mutual
def names:AV→List Nat
 | .val _=>[]
 | .ptr b _=>[b]
 | .slice b _ _ _=>[b]
 | .agg cs=>E0e cs
 | .tuple cs=>E0e cs
 | .func _ a b=>E0e a++E0e b
 | .map b=>[b]
 | .any=>[]
def E0e:List AV→List Nat
 | []=>[]
 | a :: as=>names a++E0e as
end
def H1z:Con→List Nat
 | .av a=>names a
 | .row _ cs=>E0e cs
 | .obj _=>[]
def hasN:List Nat→Nat→Bool
 | [],_=>false
 | x :: r,b=>match Nat.beq x b with | true=>true | false=>hasN r b
def reach:Nat→Hp→List Nat→List Nat→List Nat
 | 0,_,_,acc=>acc
 | _+1,_,[],acc=>acc
 | n+1,heap,b :: todo,acc=>match hasN acc b with
  | true=>reach n heap todo acc
  | false=>match hget heap b with
   | some c=>reach n heap (H1z c++todo) (b :: acc)
   | none=>reach n heap todo acc
def C0u(heap:Hp):List Nat→Hp
 | []=>[]
 | b :: r=>match hget heap b with
  | some c=>(b,c) :: C0u heap r
  | none=>C0u heap r
abbrev R0c(β:Type):=FuncId→List AV→Hp→Nat→Nat→(AV→Hp→(Nat→Bool)→Option β)→Option β
def R1j(σ:Nat→Option Nat)(w:World)(b:Nat):Con→Prop
 | .row e cs=>∃r vs,σ b=some r∧w.heap[r]?=some (.cells (List.toArray vs) e (0,0))∧Rels σ cs vs
 | .obj o=>∃r o',σ b=some r∧w.heap[r]?=some o'∧Den o o'
 | .av _=>True
def Y0u(σ:Nat→Option Nat)(H:Hp)(w:World):Prop:=∀b c,hget H b=some c→R1j σ w b c
def CallFacts(P:Program)(f:FuncId)(args:List AV)(H:Hp)(lo hi:Nat)(res:AV)(H':Hp):Prop :=
 ∀(σ:Nat→Option Nat) (vals:List Value) (w:World),(∀b b' r,σ b=some r→σ b'=some r→b=b')→(∀b r,σ b=some r→r<w.heap.size)→Rels σ args vals→Y0u σ H w →
  (∀b,lo≤b→b<hi→σ b=none) →
  Calls P f (List.toArray vals) w fun e w'=>∃σ' v,e=.returned v∧Le σ σ'∧(∀b,σ b=none→(b<lo∨hi≤b)→σ' b=none)∧Rel σ' res v∧Y0u σ' H' w' ∧
   (∀b b' r,σ' b=some r→σ' b'=some r→b=b')∧(∀b r,σ' b=some r→r<w'.heap.size)∧(∀b c,hget H' b=some c→(∃c',hget H b=some c')∨∀r,σ' b=some r→w.heap.size≤r) ∧
   w'.os=w.os∧w'.tape=w.tape∧w'.output=w.output∧w.heap.size≤w'.heap.size ∧
   (∀k,k<w.heap.size→(∀b c,hget H b=some c→σ b≠some k)→w'.heap[k]?=w.heap[k]?)
def D0t(P:Program)(call:R0c β):Prop :=
 ∀f args H lo hi K res,call f args H lo hi K=some res→∃r H' T,K r H' T=some res∧CallFacts P f args H lo hi r H'∧∀p∈H',T p.1=false→hget H p.1=some p.2
def hpWr(H:Hp):Wr:=H.map fun p=>(.blk p.1,p.2)
def A2h(T:Nat→Bool):Hp→Hp
 | []=>[]
 | (b,c) :: r=>match T b with
  | true=>(b,c) :: A2h T r
  | false=>A2h T r
theorem Z1k{u:U}{b:Nat}{c:Con}(hu:u (.blk b)=some c):∀{r:Hp},(∀p∈r,p.1=b→p.2=c)→upd u (hpWr r) (.blk b)=some c
 | [],_=>hu
 | (b',c') :: r,h=>by
  simp only[hpWr,List.map_cons,upd,upd1]
  split
  ·rename_i e
   cases e
   have e2:c'=c:=h (b,c') (by simp) rfl
   rw[e2]
  ·exact Z1k hu fun p hp=>h p (List.mem_cons_of_mem _ hp)
theorem Z1j{u:U}{T:Nat→Bool}:∀{H:Hp},(∀p∈H,T p.1=false→u (.blk p.1)=some p.2)→upd u (hpWr (A2h T H))=upd u (hpWr H)
 | [],_=>rfl
 | (b,c) :: r,h=>by
  have ih:=Z1j (T:=T) (u:=u) (H:=r) fun p hp=>h p (List.mem_cons_of_mem _ hp)
  unfold A2h
  split
  ·simp only[hpWr,List.map_cons,upd]
   have ih':upd u (List.map (fun p=>(Loc.blk p.1,p.2)) (A2h T r))=upd u (List.map (fun p=>(Loc.blk p.1,p.2)) r):=ih
   rw[ih']
  ·rename_i hT
   rw[ih]
   have hu:=h (b,c) (by simp) hT
   have hs:upd u (hpWr r) (.blk b)=some c:=Z1k hu fun p hp e=>by
    have :=h p (List.mem_cons_of_mem _ hp) (by rw[e];exact hT)
    rw[e,hu]at this
    exact (Option.some.inj this).symm
   funext l
   simp only[hpWr,List.map_cons,upd,upd1]
   split
   ·rename_i e
    rw[e];exact hs
   ·rfl
def B3m(H' H:Hp):Bool:=H.all fun p=>(hget H' p.1).isSome
def noAv(H:Hp):Bool:=H.all fun p=>match p.2 with | .av _=>false | _=>true
theorem U0v(H:Hp)(b:Nat):(hpWr H).find? (fun p=>decide (p.1=Loc.blk b))=(hget H b).map fun c=>(Loc.blk b,c):=by
 induction H with
 | nil=>rfl
 | cons p H ih =>
  obtain ⟨b',c⟩:=p
  simp only[hpWr,List.map_cons,List.find?_cons,hget]
  by_cases e:b'=b
  ·subst e;simp
  ·have h1:decide (Loc.blk b'=Loc.blk b)=false:=by simp[e]
   have h2:Nat.beq b' b=false:=by
    cases hb:Nat.beq b' b with
    | false=>rfl
    | true=>exact absurd (Nat.eq_of_beq_eq_true hb) e
   rw[h1,h2]
   exact ih
theorem W2c(H:Hp)(t:Nat):(hpWr H).find? (fun p=>decide (p.1=Loc.tmp t))=none:=by
 simp[hpWr]
theorem M0t:∀{L:Hp},noAv L=true→∀b v,hget L b≠some (.av v)
 | [],_,b,v,h=>by simp[hget]at h
 | (b',c') :: L,hall,b,v,h=>by
  simp only[noAv,List.all_cons,Bool.and_eq_true]at hall
  simp only[hget]at h
  split at h
  ·cases h;simp at hall
  ·exact M0t (L:=L) hall.2 b v h
theorem Fits.call{N:Nat}{w0:World}{own:Nat→Prop}{σ σ':Nat→Option Nat}{u:U}{a:Act}{w w':World}(hf:Fits N w0 own σ u a w){H H':Hp}(hH:∀b c,hget H b=some c→u (.blk b)=some c)(hnoH:noAv H=true)
  (hcov:B3m H' H=true) (hle:Le σ σ') (hH':Y0u σ' H' w') (hinj:∀b b' r,σ' b=some r→σ' b'=some r→b=b') (hbd:∀b r,σ' b=some r→r<w'.heap.size)
  (hnew:∀b c,hget H' b=some c→(∃c',hget H b=some c')∨∀r,σ' b=some r→w.heap.size≤r) (hos:w'.os=w.os) (htape:w'.tape=w.tape) (hout:w'.output=w.output) (hsz:w.heap.size≤w'.heap.size)
  (hframe:∀k,k<w.heap.size→(∀b c,hget H b=some c→σ b≠some k)→w'.heap[k]?=w.heap[k]?):Fits N w0 own σ' (upd u (hpWr H')) a w':=by
 have hget_cov:∀b c,hget H b=some c→∃c',hget H' b=some c':=by
  intro b c hb
  have:∀(L:Hp),(L.all fun p=>(hget H' p.1).isSome)=true→∀b c,hget L b=some c→∃c',hget H' b=some c':=by
   intro L
   induction L with
   | nil=>intro _ b c h;simp[hget]at h
   | cons p L ih =>
    intro hall b c h
    obtain ⟨b',c'⟩:=p
    simp only[List.all_cons,Bool.and_eq_true]at hall
    simp only[hget]at h
    split at h
    ·rename_i e
     rw[← Nat.eq_of_beq_eq_true e]
     exact Option.isSome_iff_exists.1 hall.1
    ·exact ih hall.2 b c h
  exact this H hcov b c hb
 have old:∀b r,hget H' b=none→σ b=some r→w'.heap[r]?=w.heap[r]?:=by
  intro b r hb hs
  refine hframe r (hf.bound _ _ hs) fun b' c' h1 h2=>?_
  obtain ⟨c'',h3⟩:=hget_cov b' c' h1
  rw[hf.inj _ _ _ h2 hs,hb]at h3
  cases h3
 have ownH:∀b c,hget H b=some c→∀r,σ b=some r→own r∨w0.heap.size≤r:=by
  intro b c hb r hs
  cases c with
  | row e cs=>exact hf.ownsR b e cs r (hH _ _ hb) hs
  | obj o=>exact hf.ownsO b o r (hH _ _ hb) hs
  | av v=>exact absurd hb (M0t hnoH b v)
 have sigH:∀b c,hget H b=some c→∃r,σ b=some r:=by
  intro b c hb
  cases c with
  | row e cs=>obtain ⟨r,_,h1,_⟩:=hf.row b e cs (hH _ _ hb);exact ⟨r,h1⟩
  | obj o=>obtain ⟨r,_,h1,_⟩:=hf.obj b o (hH _ _ hb);exact ⟨r,h1⟩
  | av v=>exact absurd hb (M0t hnoH b v)
 have ownH':∀b c,hget H' b=some c→∀r,σ' b=some r→own r∨w0.heap.size≤r:=by
  intro b c hb r hs
  rcases hnew b c hb with ⟨c',hc'⟩ | h1
  ·obtain ⟨r0,h2⟩:=sigH b c' hc'
   have :=hle _ _ h2
   rw[hs]at this
   cases this
   exact ownH b c' hc' r h2
  ·exact .inr (Nat.le_trans hf.grown (h1 r hs))
 refine ⟨hf.defers,hf.size,fun t v k=>?_,fun b e cs k=>?_,fun b o k=>?_,hinj,hbd,fun b e cs r k hs=>?_,fun b o r k hs=>?_,hos.trans hf.os,htape.trans hf.tape,hout.trans hf.output,Nat.le_trans hf.grown hsz,fun k hk hn=>?_⟩
 ·rw[Y0n,W2c]at k
  obtain ⟨x,h1,h2⟩:=hf.tmp t v k
  exact ⟨x,h1,Rel.mono hle _ _ h2⟩
 ·rw[Y0n,U0v]at k
  cases hb:hget H' b with
  | some c =>
   rw[hb]at k
   simp at k
   subst k
   exact hH' b _ hb
  | none =>
   rw[hb]at k
   obtain ⟨r,vs,h1,h2,h3⟩:=hf.row b e cs k
   exact ⟨r,vs,hle _ _ h1,by rw[old b r hb h1];exact h2,Rels.mono hle _ _ h3⟩
 ·rw[Y0n,U0v]at k
  cases hb:hget H' b with
  | some c =>
   rw[hb]at k
   simp at k
   subst k
   exact hH' b _ hb
  | none =>
   rw[hb]at k
   obtain ⟨r,o',h1,h2,h3⟩:=hf.obj b o k
   exact ⟨r,o',hle _ _ h1,by rw[old b r hb h1];exact h2,h3⟩
 ·rw[Y0n,U0v]at k
  cases hb:hget H' b with
  | some c=>exact ownH' b c hb r hs
  | none =>
   rw[hb]at k
   obtain ⟨r1,vs,h1,_⟩:=hf.row b e cs k
   have :=hle _ _ h1
   rw[hs]at this
   cases this
   exact hf.ownsR b e cs r k h1
 ·rw[Y0n,U0v]at k
  cases hb:hget H' b with
  | some c=>exact ownH' b c hb r hs
  | none =>
   rw[hb]at k
   obtain ⟨r1,_,h1,_⟩:=hf.obj b o k
   have :=hle _ _ h1
   rw[hs]at this
   cases this
   exact hf.ownsO b o r k h1
 ·rw[hframe k (by have :=hf.grown;omega) fun b c h1 h2=>?_]
  ·exact hf.frame k hk hn
  ·rcases ownH b c h1 k h2 with h3 | h3
   ·exact hn h3
   ·omega
end Go.Ab
