/- A part of the proof of 'CraftHolds': lemmas, no statement of their own; no condition. -/
import Derived.Test.YtoocjipllmkjcaaGreatGAbD
import Derived.Laws.Externs
import Derived.KernelRfl
namespace Go.Ab
variable {β:Type}
section
variable {P:Program} {N:Nat} {ops:Array Oper} {i:Nat} {tmps:List AV} {heap:Hp} {o:Oper} {rd:Wr} {lo hi:Nat} {K:Wr→Wr→Option β} {res:β}
theorem M0c{t:TypeId}{len:Nat}{parts:List (Nat×Value)}{elem:TypeId}{cells:List Value}(h:H0x P t len parts=some (elem,cells))(w:World) :
  (Instr.buildSlice t len (List.toArray parts)).run P w=.ok (.slice (some ⟨w.heap.size,0,none⟩) len len) (w.alloc (.cells (List.toArray cells) elem)):=by
 unfold H0x at h
 split at h
 ·rename_i e hu
  split at h
  ·rename_i ti hi'
   split at h
   ·rename_i z h1 h2 hz
    have h1:=of_decide_eq_false h1
    have h2:=of_decide_eq_false h2
    split at h
    ·rename_i cs hcs
     cases h
     unfold Instr.buildSlice
     simp only[Sem.run_bind,run_underlying hu,Result.andThen_ok,B0q hi',if_neg h1,if_neg h2,Sem.run_pure,E0j hi' hz,hcs,newRow,run_newObj,World.alloc_eq,Array.toArray_toList]
    ·cases h
   ·cases h
  ·cases h
 ·cases h
theorem P2d{N:Nat}{w0:World}{own:Nat→Prop}{σ:Nat→Option Nat}{u:U}{a:Act}{w:World}(hf:Fits N w0 own σ u a w){parts:List (Nat×Operand)}
  (hr:∀x∈parts.map (·.2),∀p∈rdOf tmps x,u p.1=some p.2) (h:(parts.map (·.2)).all (U1b tmps)=true) :
  (parts.map fun p=>(p.1,a.eval p.2))=parts.map fun p=>(p.1,D1g tmps p.2):=by
 apply List.map_congr_left
 intro p hp
 rw[D1h hf (hr p.2 (List.mem_map.2 ⟨p,hp,rfl⟩)) (List.all_eq_true.1 h p.2 (List.mem_map.2 ⟨p,hp,rfl⟩))]
theorem K0v{N:Nat}{w0:World}{own:Nat→Prop}{σ:Nat→Option Nat}{u:U}{a:Act}{w:World}(hf:Fits N w0 own σ u a w):∀{xs:List Operand} {as:List AV},
  (∀x∈xs,∀p∈rdOf tmps x,u p.1=some p.2)→opdL tmps xs=some as→Rels σ as (xs.map a.eval)
 | [],as,_,h=>by simp[opdL]at h;subst h;simp[Rels]
 | x :: xs,as,hr,h=>by
  simp only[opdL]at h
  split at h
  ·rename_i b l hb hl
   cases h
   simp only[List.map_cons,Rels]
   exact ⟨_,_,rfl,A0n hf (hr x (List.mem_cons_self ..)) hb,K0v hf (fun y hy=>hr y (List.mem_cons_of_mem _ hy)) hl⟩
  ·cases h
theorem Y0k:∀{l:List (Nat×Operand)} {k:Nat},L1p k l=true→l.map (·.1)=List.range' k l.length
 | [],_,_=>rfl
 | p :: r,k,h=>by
  simp only[L1p,Bool.and_eq_true]at h
  simp only[List.map_cons,List.length_cons,List.range'_succ,Nat.eq_of_beq_eq_true h.1,Y0k h.2]
theorem X0z{σ:Nat→Option Nat}:∀{as:List AV} {vs:List Value},X1a as=true→Rels σ as vs→∀v∈vs,v.cells=#[v]
 | [],vs,_,k=>by simp only[Rels]at k;subst k;intro v hv;cases hv
 | a :: as,vs,h,k=>by
  simp only[Rels]at k
  obtain ⟨x,xs,rfl,h2,h3⟩:=k
  cases a<;>simp only[X1a,Bool.false_eq_true]at h
  simp only[Rel]at h2
  obtain ⟨r,_,rfl⟩:=h2
  intro v hv
  rcases List.mem_cons.1 hv with rfl | hv
  ·rfl
  ·exact X0z h h3 v hv
theorem K1e{γ:Type}(g:Operand→γ):∀l:List (Nat×Operand),(l.map fun x=>(x.1,g x.2))=(l.map (·.1)).zip ((l.map (·.2)).map g)
 | []=>rfl
 | p :: l=>by simp[K1e g l]
theorem N1e(sz:Nat)(hsz:sz=1):∀(xs:List Value) (k:Nat) (pre post:List Value),(∀x∈xs,x.cells=#[x])→post.length=xs.length→pre.length=k →
  Instr.fill (fun j=>some (j*sz,sz)) (List.toArray (pre++post)) ((List.range' k xs.length).zip xs)=some (List.toArray (pre++xs))
 | [],k,pre,post,_,hl,_=>by
  have:post=[]:=List.eq_nil_of_length_eq_zero hl
  subst this
  simp[Instr.fill]
 | x :: xs,k,pre,post,hx,hl,hk=>by
  subst hsz
  cases post with
  | nil=>cases hl
  | cons q post =>
   simp only[List.length_cons,List.range'_succ,List.zip_cons_cons,Instr.fill,hx x (by simp)]
   have e1:¬ ((#[x]:Array Value).size≠1∨k*1+(#[x]:Array Value).size>(List.toArray (pre++q :: post)).size):=by
    simp[hk]
   simp only[Nat.mul_one]at e1 ⊢
   have e2:(decide ((#[x]:Array Value).size≠1)||decide (k+(#[x]:Array Value).size>(List.toArray (pre++q :: post)).size))=false:=by
    simp[hk]
   have e3:((#[x]:Array Value).zipIdx.foldl (fun cs (c,j)=>cs.setIfInBounds (k+j) c) (List.toArray (pre++q :: post)))=List.toArray ((pre++[x])++post):=by
    subst hk
    simp[Array.zipIdx]
   simp only[e3]
   rw[if_neg (by simpa using e1)]
   have ih:=N1e 1 rfl xs (k+1) (pre++[x]) post (fun y hy=>hx y (by simp[hy])) (by simpa using hl) (by simp[hk])
   simp only[Nat.mul_one]at ih
   rw[ih]
   simp
theorem Y0v{t:TypeId}{len:Nat}{parts:Array (Nat×Operand)}(hop:o.op=.buildSlice t len parts)(ho:ops[i]?=some o)(hw:Want N ops o rd)(hg:Good tmps heap rd)(hsub:∀p∈D0q tmps o,p∈rd)(h:T0r P N tmps o rd t len parts lo hi K=some res):Done P N ops i tmps heap lo hi K res:=by
 unfold T0r at h
 split at h
 ·rename_i elem as hu has
  split at h
  ·rename_i ti hi' hc
   simp only[Bool.and_eq_true]at hc
   obtain ⟨hseq,hptr,hlen,hlt⟩:=hc
   have hlt:=of_decide_eq_true hlt
   have hlen:=Nat.eq_of_beq_eq_true hlen
   split at h
   ·rename_i z hz h1 h2 h3
    have h1:=Nat.eq_of_beq_eq_true h1
    have h2:=of_decide_eq_false h2
    have h3:=of_decide_eq_false h3
    split at h
    ·rename_i hzs
     have hzs:=Nat.eq_of_beq_eq_true hzs
     obtain ⟨rd',wr,k1,rfl,k2⟩:=J0d (P:=P) (lo:=lo) (hi:=hi) ho h hw fun w0 own σ u a w hf hr hn=>by
      have hrels:Rels σ as ((parts.toList.map (·.2)).map a.eval):=K0v hf (fun x hx=>A0d (o:=o) (by
       simp only[hop,Op.operands]
       simpa using hx) hsub hr) has
      obtain ⟨k3,k4⟩:=hf.alloc (hn lo (Nat.le_refl _) hlt) (e:=elem) hrels
      refine ⟨_,.slice (some ⟨w.heap.size,0,none⟩) len len,_,?_,k4,?_,k3,?_⟩
      ·have e1:((parts.map fun (x:Nat×Operand)=>(x.1,a.eval x.2)).toList)=(List.range' 0 ((parts.toList.map (·.2)).map a.eval).length).zip ((parts.toList.map (·.2)).map a.eval):=by
        rw[List.length_map,List.length_map,← Y0k hseq,← K1e,Array.toList_map]
       have hl2:((parts.toList.map (·.2)).map a.eval).length=len:=by rw[← hrels.length,hlen]
       have hzero:((Array.range (len*ti.size)).map (z.cells[· % z.cells.size]!)).toList.length=((parts.toList.map (·.2)).map a.eval).length:=by
        rw[hl2]
        simp[h1]
       have hfill:=N1e ti.size h1 ((parts.toList.map (·.2)).map a.eval) 0 [] ((Array.range (len*ti.size)).map (z.cells[· % z.cells.size]!)).toList (X0z hptr hrels) hzero rfl
       simp only[List.nil_append,Array.toArray_toList]at hfill
       rw[← e1]at hfill
       simp only[execOp,hop,Sem.run_bind]
       unfold Instr.buildSlice
       simp only[Sem.run_bind,run_underlying hu,Result.andThen_ok,B0q hi',if_neg h2,if_neg h3,Sem.run_pure,E0j hi' hz,hfill,newRow,run_newObj,World.alloc_eq]
      ·intro b hb hb2
       show (if b=lo then _ else σ b)=none
       rw[if_neg (by omega)];exact hb
      ·simp only[Rel];exact ⟨w.heap.size,by simp,rfl⟩
     exact ⟨rd',wr,k1,hg,k2⟩
    ·cases h
   ·cases h
  ·cases h
 ·cases h
theorem X0c{t:TypeId}{len:Nat}{parts:Array (Nat×Operand)}(hop:o.op=.buildSlice t len parts)(ho:ops[i]?=some o)(hw:Want N ops o rd)(hg:Good tmps heap rd)(hsub:∀p∈D0q tmps o,p∈rd)(h:Q0b P N tmps o rd t len parts lo hi K=some res):Done P N ops i tmps heap lo hi K res:=by
 unfold Q0b at h
 split at h
 ·rename_i hall hlt
  have hlt:=of_decide_eq_true hlt
  split at h
  ·rename_i elem cells hc
   obtain ⟨rd',wr,h1,rfl,h2⟩:=J0d (P:=P) (lo:=lo) (hi:=hi) ho h hw fun w0 own σ u a w hf hr hn=>by
    have hmap:=P2d hf (parts:=parts.toList) (fun x hx=>A0d (o:=o) (by
     simp only[hop,Op.operands]
     simpa using hx) hsub hr) hall
    obtain ⟨h3,h4⟩:=hf.alloc (hn lo (Nat.le_refl _) hlt) (e:=elem) (Rels.vals (σ:=σ) cells)
    refine ⟨_,.slice (some ⟨w.heap.size,0,none⟩) len len,_,?_,h4,?_,h3,?_⟩
    ·have e1:(parts.map fun (x:Nat×Operand)=>(x.1,a.eval x.2))=List.toArray (parts.toList.map fun p=>(p.1,D1g tmps p.2)):=by
      rw[← hmap]
      apply Array.toList_inj.1
      simp
     simp only[execOp,hop,Sem.run_bind]
     have e2:=M0c hc w
     rw[← e1]at e2
     rw[e2]
     rfl
    ·intro b hb hb2
     show (if b=lo then _ else σ b)=none
     rw[if_neg (by omega)];exact hb
    ·simp only[Rel];exact ⟨w.heap.size,by simp,rfl⟩
   exact ⟨rd',wr,h1,hg,h2⟩
  ·cases h
 ·exact Y0v hop ho hw hg hsub h
 ·cases h
theorem B2a{σ:Nat→Option Nat}{a:AV}{v:Value}(h:one1 a=true)(k:Rel σ a v):v.cells=#[v]:=by
 cases a<;>simp only[one1,Bool.false_eq_true]at h
 ·rename_i x
  simp only[Rel]at k
  subst k
  cases v<;>simp_all [Value.cells]
 ·simp only[Rel]at k
  obtain ⟨r,_,rfl⟩:=k
  rfl
 ·simp only[Rel]at k
  obtain ⟨r,_,rfl⟩:=k
  rfl
theorem A2y{fs:Array Field}{i off:Nat}(h:X2e P fs i=some off):∃fd ti,fs[i]?=some fd∧P.info? fd.type=some ti∧ti.size=1∧fd.offset=off:=by
 unfold X2e at h
 split at h
 ·rename_i fd hf
  split at h
  ·rename_i ti hi
   split at h
   ·rename_i hb
    cases h
    exact ⟨fd,ti,hf,hi,Nat.eq_of_beq_eq_true hb,rfl⟩
   ·cases h
  ·cases h
 ·cases h
theorem Z0y{place:Nat→Option (Nat×Nat)}{σ:Nat→Option Nat}:∀(is offs:List Nat) (as:List AV) (vs:List Value) (cs:List AV) (ws:List Value) (l:List AV),is.length=vs.length→offs.length=is.length→(∀(j i off:Nat),is[j]?=some i→offs[j]?=some off→place i=some (off,1)) →
  Rels σ as vs→Rels σ cs ws→Q1x cs (offs.zip as)=some l→∃us,Instr.fill place (List.toArray ws) (is.zip vs)=some (List.toArray us)∧Rels σ l us
 | [],offs,as,vs,cs,ws,l,h1,h2,_,_,hc,hs=>by
  have:offs=[]:=List.eq_nil_of_length_eq_zero h2
  subst this
  have:vs=[]:=List.eq_nil_of_length_eq_zero h1.symm
  subst this
  simp only[List.zip_nil_left,Q1x,Option.some.injEq]at hs
  subst hs
  exact ⟨ws,rfl,hc⟩
 | i :: is,offs,as,vs,cs,ws,l,h1,h2,h3,ha,hc,hs=>by
  cases offs with
  | nil=>cases h2
  | cons off offs =>
   cases vs with
   | nil=>cases h1
   | cons v vs =>
    cases as with
    | nil=>simp only[Rels]at ha;cases ha
    | cons a as =>
     simp only[Rels]at ha
     obtain ⟨x,xs,e,ha1,ha2⟩:=ha
     cases e
     simp only[List.zip_cons_cons,Q1x]at hs
     split at hs
     ·rename_i hb
      simp only[Bool.and_eq_true,Nat.blt_eq]at hb
      have hcell:=B2a hb.1 ha1
      have hlen:off<ws.length:=by rw[← hc.length];exact hb.2
      obtain ⟨us,k1,k2⟩:=Z0y (place:=place) is offs as vs (cs.set off a) (ws.set off v) l (by simpa using h1) (by simpa using h2) (fun j i' off' q1 q2=>h3 (j+1) i' off' (by simpa using q1) (by simpa using q2)) ha2 (hc.set ha1) hs
      refine ⟨us,?_,k2⟩
      have hp:=h3 0 i off rfl rfl
      simp only[List.zip_cons_cons,Instr.fill,hp,hcell]
      have e1:¬ ((#[v]:Array Value).size≠1∨off+(#[v]:Array Value).size>(List.toArray ws).size):=by
       simp only[List.size_toArray,List.length_cons,List.length_nil]
       omega
      have e3:((#[v]:Array Value).zipIdx.foldl (fun cs (c,j)=>cs.setIfInBounds (off+j) c) (List.toArray ws))=List.toArray (ws.set off v):=by
       simp[Array.zipIdx]
      rw[if_neg (by simpa using e1),e3]
      exact k1
     ·cases hs
theorem B1g{fs:Array Field}:∀{is offs:List Nat},P1n P fs is=some offs→offs.length=is.length∧∀(j i off:Nat),is[j]?=some i→offs[j]?=some off→X2e P fs i=some off
 | [],offs,h=>by simp only[P1n,Option.some.injEq]at h;subst h;exact ⟨rfl,fun j i off h=>by simp at h⟩
 | i :: is,offs,h=>by
  simp only[P1n]at h
  split at h
  ·rename_i o l h1 h2
   cases h
   obtain ⟨k1,k2⟩:=B1g h2
   refine ⟨by simp[k1],fun j i' off q1 q2=>?_⟩
   cases j with
   | zero=>simp at q1 q2;subst q1 q2;exact h1
   | succ j=>simp at q1 q2;exact k2 j i' off q1 q2
  ·cases h
theorem B2q{fs:Array Field}(h:fs.toList.all (fun f=>(P.info? f.type).isSome)=true)(w:World):∃ps:Array (Nat×Nat),(fs.mapM (m:=Sem) fun f=>do pure (f.offset,← sizeOf f.type)).run P w=.ok ps w∧∀(i:Nat) fd ti,fs[i]?=some fd→P.info? fd.type=some ti→ps[i]?=some (fd.offset,ti.size):=by
 have key:∀l:List Field,l.all (fun f=>(P.info? f.type).isSome)=true→∃ps:List (Nat×Nat),(l.mapM (m:=Sem) fun f=>do pure (f.offset,← sizeOf f.type)).run P w=.ok ps w∧∀(i:Nat) fd ti,l[i]?=some fd→P.info? fd.type=some ti→ps[i]?=some (fd.offset,ti.size):=by
  intro l
  induction l with
  | nil=>exact fun _=>⟨[],by simp,fun i fd ti h=>by simp at h⟩
  | cons f l ih =>
   intro hl
   simp only[List.all_cons,Bool.and_eq_true]at hl
   obtain ⟨ti,hti⟩:=Option.isSome_iff_exists.1 hl.1
   obtain ⟨ps,h1,h2⟩:=ih hl.2
   refine ⟨(f.offset,ti.size) :: ps,?_,fun i fd ti' q1 q2=>?_⟩
   ·simp only[List.mapM_cons,Sem.run_bind,B0q hti,Result.andThen_ok,Sem.run_pure,h1]
   ·cases i with
    | zero=>simp at q1;subst q1;rw[hti]at q2;cases q2;rfl
    | succ i=>simp at q1 ⊢;exact h2 i fd ti' q1 q2
 obtain ⟨ps,h1,h2⟩:=key fs.toList h
 refine ⟨List.toArray ps,?_,fun i fd ti q1 q2=>by simpa using h2 i fd ti (by simpa using q1) q2⟩
 rw[Array.mapM_eq_mapM_toList]
 simp only[Sem.run_map,h1,Result.andThen_ok]
theorem K1u{t:TypeId}{parts:Array (Nat×Operand)}(hop:o.op=.build t parts)(ho:ops[i]?=some o)(hw:Want N ops o rd)(hg:Good tmps heap rd)(hsub:∀p∈D0q tmps o,p∈rd)(h:K1t P N tmps o rd t parts K=some res):Done P N ops i tmps heap lo hi K res:=by
 unfold K1t at h
 split at h
 ·rename_i fs as z hu has hz
  split at h
  ·rename_i offs hall hoffs
   split at h
   ·rename_i l hl
    refine A0v ho hw hg h fun w0 own σ u a w hf hr=>?_
    have hrels:Rels σ as ((parts.toList.map (·.2)).map a.eval):=K0v hf (fun x hx=>A0d (o:=o) (by
     simp only[hop,Op.operands]
     simpa using hx) hsub hr) has
    obtain ⟨hlen,hoff⟩:=B1g hoffs
    obtain ⟨ps,hps,hpl⟩:=B2q (P:=P) hall w
    obtain ⟨us,k1,k2⟩:=Z0y (place:=(ps[·]?)) (parts.toList.map (·.1)) offs as ((parts.toList.map (·.2)).map a.eval) (z.cells.toList.map .val) z.cells.toList l (by simp) hlen (fun j i off q1 q2=>by
     obtain ⟨fd,ti,p1,p2,p3,p4⟩:=A2y (hoff j i off q1 q2)
     rw[← p4,← p3]
     exact hpl i fd ti p1 p2) hrels (Rels.vals _) hl
    have hz':(zeroValue t).run P w=.ok z w:=by
     cases hi:P.info? t with
     | none=>simp[hi]at hz
     | some ti=>simp[hi]at hz;exact E0j hi hz w
    refine ⟨.agg (List.toArray us),?_,by simp only[Rel];exact ⟨us,rfl,k2⟩⟩
    have e1:((parts.map fun (x:Nat×Operand)=>(x.1,a.eval x.2)).toList)=(parts.toList.map (·.1)).zip ((parts.toList.map (·.2)).map a.eval):=by
     rw[← K1e,Array.toList_map]
    rw[← e1,Array.toArray_toList]at k1
    simp only[execOp,hop,Sem.run_bind]
    unfold Instr.build
    simp only[Sem.run_bind,hz',Result.andThen_ok,run_underlying hu,hps,k1,Sem.run_pure]
   ·cases h
  ·cases h
 ·cases h
theorem P1v{t:TypeId}{parts:Array (Nat×Operand)}(hop:o.op=.build t parts)(ho:ops[i]?=some o)(hw:Want N ops o rd)(hg:Good tmps heap rd)(hsub:∀p∈D0q tmps o,p∈rd)(h:U1t P N tmps o rd t parts K=some res):Done P N ops i tmps heap lo hi K res:=by
 unfold U1t at h
 split at h
 ·exact D0a ho hw hg hsub h
 ·exact K1u hop ho hw hg hsub h
theorem B1q{fn:Fn}{first captured:Array Operand}(hop:o.op=.makeFunc fn first captured)(ho:ops[i]?=some o)(hw:Want N ops o rd)(hg:Good tmps heap rd)(hsub:∀p∈D0q tmps o,p∈rd)(h:X0d N tmps o rd fn first captured K=some res):Done P N ops i tmps heap lo hi K res:=by
 unfold X0d at h
 split at h
 ·rename_i f a b ha hb
  refine A0v ho hw hg h fun w0 own σ u a' w hf hr=>?_
  refine ⟨.func (.func f) (List.toArray (first.toList.map a'.eval)) (List.toArray (captured.toList.map a'.eval)),?_,?_⟩
  ·simp[execOp,hop,Instr.makeFunc]
   constructor<;>(apply Array.toList_inj.1;simp)
  ·simp only[Rel]
   exact ⟨_,_,rfl,K0v hf (fun x hx=>A0d (o:=o) (by simp only[hop,Op.operands];simp at hx;simp[hx]) hsub hr) ha,
    K0v hf (fun x hx=>A0d (o:=o) (by simp only[hop,Op.operands];simp at hx;simp[hx]) hsub hr) hb⟩
 ·cases h
theorem D1t{x:Operand}{ix:Nat}(hop:o.op=.extract x ix)(ho:ops[i]?=some o)(hw:Want N ops o rd)(hg:Good tmps heap rd)(hsub:∀p∈D0q tmps o,p∈rd)(h:B1p P N tmps o rd x ix K=some res):Done P N ops i tmps heap lo hi K res:=by
 have hx:x∈o.op.operands:=by simp[hop,Op.operands]
 unfold B1p at h
 split at h
 ·rename_i vs ha
  split at h
  ·rename_i a hv
   refine A0v ho hw hg h fun w0 own σ u a' w hf hr=>?_
   have h1:=A0n hf (A0d hx hsub hr) ha
   simp only[Rel]at h1
   obtain ⟨xs,e,hrels⟩:=h1
   obtain ⟨v,h2,h3⟩:=Rels.get hrels hv
   refine ⟨v,?_,h3⟩
   simp[execOp,hop,e,Instr.extract,h2]
  ·cases h
 ·exact D0a ho hw hg hsub h
theorem H2x{t:TypeId}{es:Array MapEntry}{c r:Nat}{k v:Value}{ok:Bool}(h:J3g P t es k ok=some v){w:World}(hr:w.heap[r]?=some (.map es c)):(Instr.lookup t (.map (some r)) k ok).run P w=.ok v w:=by
 unfold J3g at h
 split at h
 ·rename_i kt et hu
  have hg:(getObj r).run P w=.ok (.map es c) w:=by simp[getObj,Sem.run,hr]
  split at h
  ·rename_i i v0 hc hf
   cases h
   unfold Instr.lookup
   simp only[Sem.run_bind,run_underlying hu,Result.andThen_ok,hg,Sem.run_pure,A0y hc w,A0y hf w]
   cases ok<;>rfl
  ·rename_i z hc hf hz
   cases h
   have hz':(zeroValue et).run P w=.ok z w:=by
    cases hi:P.info? et with
    | none=>simp[hi]at hz
    | some ti=>simp[hi]at hz;exact E0j hi hz w
   unfold Instr.lookup
   simp only[Sem.run_bind,run_underlying hu,Result.andThen_ok,hg,Sem.run_pure,A0y hc w,A0y hf w,hz']
   cases ok<;>rfl
  ·cases h
 ·cases h
theorem G1z{kt:TypeId}{key:Value}:∀{buf:List Value} {b:Bool},B2n P kt key buf=some b→(∀p∈G0h buf,∃q,eqT P 100 kt key p.1=some q)∧(b=true→∃p∈G0h buf,eqT P 100 kt key p.1=some true)
 | [],b,h=>by simp only[B2n,Option.some.injEq]at h;subst h;exact ⟨fun p hp=>by simp[G0h]at hp,fun h=>by cases h⟩
 | [_],b,h=>by simp[B2n]at h
 | k :: v :: r,b,h=>by
  simp only[B2n]at h
  split at h
  ·rename_i p q hp hq
   cases h
   obtain ⟨h1,h2⟩:=G1z hq
   refine ⟨fun x hx=>?_,fun hb=>?_⟩
   ·simp only[G0h,List.mem_cons]at hx
    rcases hx with rfl | hx
    ·exact ⟨_,hp⟩
    ·exact h1 x hx
   ·cases p with
    | true=>exact ⟨(k,v),by simp[G0h],hp⟩
    | false =>
     obtain ⟨x,hx,hx2⟩:=h2 (by simpa using hb)
     exact ⟨x,by simp[G0h,hx],hx2⟩
  ·cases h
theorem V0v{v:Value}:∀{buf:List Value},V0u v buf=true→∀p∈G0h buf,p.2=v
 | [],_,p,hp=>by simp[G0h]at hp
 | [_],h,_,_=>by simp[V0u]at h
 | k :: x :: r,h,p,hp=>by
  simp only[V0u]at h
  split at h
  ·rename_i q n q' n'
   simp only[Bool.and_eq_true,decide_eq_true_eq]at h
   obtain ⟨⟨rfl,rfl⟩,h3⟩:=h
   simp only[G0h,List.mem_cons]at hp
   rcases hp with rfl | hp
   ·rfl
   ·exact V0v h3 p hp
  ·cases h
theorem N1j{kt:TypeId}{key v:Value}(w:World):∀(es:List MapEntry) (i:Nat),(∀e∈es,∃q,eqT P 100 kt key e.key=some q)→(∀e∈es,e.val=v)→(∃e∈es,eqT P 100 kt key e.key=some true) →
  ∃j,(Instr.findAsking kt key es i).run P w=.ok (some (j,v)) w
 | [],i,_,_,h=>by obtain ⟨e,he,_⟩:=h;cases he
 | e :: es,i,h1,h2,h3=>by
  obtain ⟨q,hq⟩:=h1 e (by simp)
  have hrun:(Op.equal kt key e.key).run P w=.ok q w:=Q0k 100 10000 kt key e.key q w (by omega) hq
  cases q with
  | true =>
   refine ⟨i,?_⟩
   simp only[Instr.findAsking,Sem.run_bind,hrun,Result.andThen_ok,if_true,Sem.run_pure,h2 e (by simp)]
  | false =>
   obtain ⟨x,hx,hx2⟩:=h3
   rcases List.mem_cons.1 hx with rfl | hx
   ·rw[hq]at hx2;cases hx2
   ·obtain ⟨j,hj⟩:=N1j w es (i+1) (fun e he=>h1 e (by simp[he])) (fun e he=>h2 e (by simp[he])) ⟨x,hx,hx2⟩
    refine ⟨j,?_⟩
    simp only[Instr.findAsking,Sem.run_bind,hrun,Result.andThen_ok,Bool.false_eq_true,if_false,hj]
theorem H2y{t:TypeId}{buf:Array Value}{es:Array MapEntry}{c r:Nat}{k v:Value}{ok:Bool}(h:J3j P t buf.toList k=some (true,v)){w:World}(hr:w.heap[r]?=some (.map es c))(hp:∀p,p∈es.toList.map kvOf↔p∈G0h buf.toList) :
  (Instr.lookup t (.map (some r)) k ok).run P w=.ok (U1p ok v) w:=by
 unfold J3j at h
 split at h
 ·rename_i kt et hu
  split at h
  ·rename_i fs b k0 v0 rest hst hc hb hbuf
   split at h
   ·rename_i hs
    simp only[Option.some.injEq,Prod.mk.injEq]at h
    obtain ⟨rfl,rfl⟩:=h
    have hmem:∀e∈es.toList,kvOf e∈G0h buf.toList:=fun e he=>(hp _).1 (List.mem_map.2 ⟨e,he,rfl⟩)
    obtain ⟨p1,p2⟩:=G1z hb
    obtain ⟨x,hx,hx2⟩:=p2 rfl
    have hx3:=(hp _).2 hx
    obtain ⟨e0,he0,hk0⟩:=List.mem_map.1 hx3
    have q1:∀e∈es.toList,∃q,eqT P 100 kt k e.key=some q:=fun e he=>p1 _ (hmem e he)
    have q2:∀e∈es.toList,e.val=v0:=fun e he=>V0v hs _ (hmem e he)
    have q3:∃e∈es.toList,eqT P 100 kt k e.key=some true:=⟨e0,he0,by rw[← hk0]at hx2;exact hx2⟩
    obtain ⟨j,hj⟩:=N1j w es.toList 0 q1 q2 q3
    have hg:(getObj r).run P w=.ok (.map es c) w:=by simp[getObj,Sem.run,hr]
    have hne:es.isEmpty=false:=by
     cases hes:es.isEmpty with
     | false=>rfl
     | true =>
      have:es=#[]:=by simpa[Array.isEmpty_iff]using hes
      subst this
      cases he0
    have hfk:(Instr.findKey kt k es.toList).run P w=.ok (some (j,v0)) w:=by
     unfold Instr.findKey
     simp only[Sem.run_bind,run_underlying hst,Result.andThen_ok]
     cases hl:es.toList with
     | nil=>rw[hl]at he0;cases he0
     | cons e es' =>
      have:Instr.findNow (.struct fs) k (e :: es') 0=none:=by simp[Instr.findNow,Instr.sameNow]
      rw[this]
      rw[hl]at hj
      exact hj
    unfold Instr.lookup
    simp only[Sem.run_bind,run_underlying hu,Result.andThen_ok,hg,Sem.run_pure,hne,A0y hc w,hfk]
    cases ok<;>rfl
   ·cases h
  ·cases h
 ·cases h
theorem Q0z{kt:TypeId}{key:Value}:∀{buf:List Value} {x:Option (Bool×Value)},Q1w P kt key buf=some x →
  (x=none∧∀p∈D0u buf,eqT P 100 kt key p.1=some false)∨(∃v,x=some (false,v)∧∀p∈D0u buf,eqT P 100 kt key p.1=some false) ∨
  ∃k v rest,x=some (true,v)∧(D0u buf).Perm ((k,v) :: rest)∧eqT P 100 kt key k=some true∧∀p∈rest,eqT P 100 kt key p.1=some false
 | [],x,h=>by simp only[Q1w,Option.some.injEq]at h;exact .inl ⟨h.symm,fun p hp=>by simp[D0u]at hp⟩
 | [_],x,h=>by simp[Q1w]at h
 | [_,.bool _],x,h=>by simp[Q1w]at h
 | k :: .bool p :: v :: r,x,h=>by
  simp only[Q1w]at h
  split at h
  ·rename_i hk hr
   simp only[Option.some.injEq]at h
   subst h
   have ih:=Q0z hr
   have hrest:∀p∈D0u r,eqT P 100 kt key p.1=some false:=by
    rcases ih with ⟨_,h⟩ | ⟨_,h,_⟩ | ⟨_,_,_,h,_⟩
    ·exact h
    ·cases h
    ·cases h
   cases p with
   | true=>exact .inr (.inr ⟨k,v,D0u r,rfl,by simp[D0u],hk,hrest⟩)
   | false=>exact .inr (.inl ⟨v,rfl,by simpa[D0u]using hrest⟩)
  ·rename_i x' hk hr
   simp only[Option.some.injEq]at h
   subst h
   have ih:=Q0z hr
   cases p with
   | false =>
    have e:D0u (k :: .bool false :: v :: r)=D0u r:=rfl
    rw[e]
    exact ih
   | true =>
    have e:D0u (k :: .bool true :: v :: r)=(k,v) :: D0u r:=rfl
    rw[e]
    rcases ih with ⟨h1,h2⟩ | ⟨v',h1,h2⟩ | ⟨k',v',rest,h1,h2,h3,h4⟩
    ·refine .inl ⟨h1,fun p hp=>?_⟩
     rcases List.mem_cons.1 hp with rfl | hp
     ·exact hk
     ·exact h2 p hp
    ·refine .inr (.inl ⟨v',h1,fun p hp=>?_⟩)
     rcases List.mem_cons.1 hp with rfl | hp
     ·exact hk
     ·exact h2 p hp
    ·refine .inr (.inr ⟨k',v',(k,v) :: rest,h1,(h2.cons _).trans (List.Perm.swap ..),h3,fun p hp=>?_⟩)
     rcases List.mem_cons.1 hp with rfl | hp
     ·exact hk
     ·exact h4 p hp
  ·cases h
theorem Q1k{kt:TypeId}{key val:Value}:∀{buf buf':List Value},putT P kt key val buf=some buf' →
  ((∀p∈D0u buf,eqT P 100 kt key p.1=some false)∧(D0u buf').Perm ((key,val) :: D0u buf)) ∨
  ∃k v rest,(D0u buf).Perm ((k,v) :: rest)∧eqT P 100 kt key k=some true∧Instr.sameBits 10000 k key=true∧(∀p∈rest,eqT P 100 kt key p.1=some false)∧(D0u buf').Perm ((key,val) :: rest)
 | [],buf',h=>by simp only[putT,Option.some.injEq]at h;subst h;exact .inl ⟨fun p hp=>by simp[D0u]at hp,by simp[D0u]⟩
 | [_],_,h=>by simp[putT]at h
 | [_,.bool _],_,h=>by simp[putT]at h
 | k :: .bool p :: v :: r,buf',h=>by
  simp only[putT]at h
  split at h
  ·rename_i hk
   split at h
   ·rename_i hs hb
    simp only[Option.some.injEq]at h
    subst h
    have hrest:∀p∈D0u r,eqT P 100 kt key p.1=some false:=by
     rcases Q0z hs with ⟨_,h⟩ | ⟨_,h,_⟩ | ⟨_,_,_,h,_⟩
     ·exact h
     ·cases h
     ·cases h
    cases p with
    | true=>exact .inr ⟨k,v,D0u r,by simp[D0u],hk,hb,hrest,by simp[D0u]⟩
    | false=>exact .inl ⟨by simpa[D0u]using hrest,by simp[D0u]⟩
   ·cases h
  ·rename_i hk
   split at h
   ·rename_i r' hr
    simp only[Option.some.injEq]at h
    subst h
    have ih:=Q1k hr
    cases p with
    | false =>
     have e:D0u (k :: .bool false :: v :: r)=D0u r:=rfl
     have e':D0u (k :: .bool false :: v :: r')=D0u r':=rfl
     rw[e,e']
     exact ih
    | true =>
     have e:D0u (k :: .bool true :: v :: r)=(k,v) :: D0u r:=rfl
     have e':D0u (k :: .bool true :: v :: r')=(k,v) :: D0u r':=rfl
     rw[e,e']
     rcases ih with ⟨h1,h2⟩ | ⟨k',v',rest,h2,h3,h4,h5,h6⟩
     ·refine .inl ⟨fun p hp=>?_,(h2.cons _).trans (List.Perm.swap ..)⟩
      rcases List.mem_cons.1 hp with rfl | hp
      ·exact hk
      ·exact h1 p hp
     ·refine .inr ⟨k',v',(k,v) :: rest,(h2.cons _).trans (List.Perm.swap ..),h3,h4,fun p hp=>?_,(h6.cons _).trans (List.Perm.swap ..)⟩
      rcases List.mem_cons.1 hp with rfl | hp
      ·exact hk
      ·exact h5 p hp
   ·cases h
  ·cases h
theorem H1t{kt:TypeId}{key:Value}(w:World):∀(es:List MapEntry) (i:Nat),(∀e∈es,eqT P 100 kt key e.key=some false)→(Instr.findAsking kt key es i).run P w=.ok none w
 | [],i,_=>rfl
 | e :: es,i,h=>by
  have hrun:(Op.equal kt key e.key).run P w=.ok false w:=Q0k 100 10000 kt key e.key false w (by omega) (h e (by simp))
  simp only[Instr.findAsking,Sem.run_bind,hrun,Result.andThen_ok,Bool.false_eq_true,if_false]
  exact H1t w es (i+1) fun e he=>h e (by simp[he])
theorem H1u{kt:TypeId}{key:Value}(w:World):∀(es:List MapEntry) (i:Nat),(∀e∈es,∃q,eqT P 100 kt key e.key=some q)→(∃e∈es,eqT P 100 kt key e.key=some true) →
  ∃A e B,es=A++e :: B∧eqT P 100 kt key e.key=some true∧(Instr.findAsking kt key es i).run P w=.ok (some (i+A.length,e.val)) w
 | [],i,_,h=>by obtain ⟨e,he,_⟩:=h;cases he
 | e :: es,i,h1,h2=>by
  obtain ⟨q,hq⟩:=h1 e (by simp)
  have hrun:(Op.equal kt key e.key).run P w=.ok q w:=Q0k 100 10000 kt key e.key q w (by omega) hq
  cases q with
  | true=>exact ⟨[],e,es,rfl,hq,by simp only[Instr.findAsking,Sem.run_bind,hrun,Result.andThen_ok,if_true,Sem.run_pure,List.length_nil,Nat.add_zero]⟩
  | false =>
   obtain ⟨x,hx,hx2⟩:=h2
   rcases List.mem_cons.1 hx with rfl | hx
   ·rw[hq]at hx2;cases hx2
   ·obtain ⟨A,y,B,k1,k2,k3⟩:=H1u w es (i+1) (fun e he=>h1 e (by simp[he])) ⟨x,hx,hx2⟩
    refine ⟨e :: A,y,B,by rw[k1];rfl,k2,?_⟩
    simp only[Instr.findAsking,Sem.run_bind,hrun,Result.andThen_ok,Bool.false_eq_true,if_false,k3,List.length_cons]
    rw[show i+1+A.length=i+(A.length+1) by omega]
theorem C1m{kt:TypeId}{kd:TypeDesc}(hu:P.underlying kt=some kd){k x:Value}{b q:Bool}(h1:Instr.sameNow kd k x=some b)(h2:eqT P 100 kt k x=some q):b=q:=by
 unfold Instr.sameNow at h1
 unfold eqT at h2
 rw[hu]at h2
 split at h1
 ·split at h1
  ·rename_i hk
   subst hk
   simp only[decide_true]at h2
   rw[h1]at h2
   exact Option.some.inj h2
  ·cases h1
 ·dsimp only at h2
  rw[h1]at h2
  exact Option.some.inj h2
 ·dsimp only at h2
  rw[h1]at h2
  exact Option.some.inj h2
 ·cases h1
theorem E1r{kt:TypeId}{kd:TypeDesc}(hu:P.underlying kt=some kd){key:Value}(w:World):∀(es:List MapEntry) (i:Nat),(∀e∈es,∃q,eqT P 100 kt key e.key=some q) →
  ∀r,Instr.findNow kd key es i=some r→(Instr.findAsking kt key es i).run P w=.ok r w
 | [],i,_,r,h=>by
  simp only[Instr.findNow,Option.some.injEq]at h
  subst h
  rfl
 | e :: es,i,hq,r,h=>by
  obtain ⟨q,hq0⟩:=hq e (by simp)
  have hrun:(Op.equal kt key e.key).run P w=.ok q w:=Q0k 100 10000 kt key e.key q w (by omega) hq0
  simp only[Instr.findNow]at h
  split at h
  ·rename_i hs
   have :=C1m hu hs hq0
   subst this
   simp only[Option.some.injEq]at h
   subst h
   simp only[Instr.findAsking,Sem.run_bind,hrun,Result.andThen_ok,if_true,Sem.run_pure]
  ·rename_i hs
   have :=C1m hu hs hq0
   subst this
   simp only[Instr.findAsking,Sem.run_bind,hrun,Result.andThen_ok,Bool.false_eq_true,if_false]
   exact E1r hu w es (i+1) (fun e he=>hq e (by simp[he])) r h
  ·cases h
theorem Q0t{kt:TypeId}{kd:TypeDesc}(hu:P.underlying kt=some kd){key:Value}(w:World)(es:List MapEntry)(hq:∀e∈es,∃q,eqT P 100 kt key e.key=some q){r:Option (Nat×Value)}(h:(Instr.findAsking kt key es 0).run P w=.ok r w) :
  (Instr.findKey kt key es).run P w=.ok r w:=by
 unfold Instr.findKey
 simp only[Sem.run_bind,run_underlying hu,Result.andThen_ok]
 cases hn:Instr.findNow kd key es 0 with
 | none=>exact h
 | some r' =>
  have :=E1r hu w es 0 hq r' hn
  rw[h]at this
  simp only[Sem.run_pure]
  exact this.symm ▸ rfl
theorem Y2p{t:TypeId}{es es':Array MapEntry}{c c' r:Nat}{k v:Value}(h:putA P t es c k v=some (es',c')){w:World}(hr:w.heap[r]?=some (.map es c)) :
  (Instr.mapUpdate t (.map (some r)) k v).run P w=.ok () {w with heap:=w.heap.setIfInBounds r (.map es' c')}:=by
 unfold putA at h
 split at h
 ·rename_i kt et hu
  have hg:(getObj r).run P w=.ok (.map es c) w:=by simp[getObj,Sem.run,hr]
  have hs:∀o,(setObj r o).run P w=.ok () {w with heap:=w.heap.setIfInBounds r o}:=by intro o;simp[setObj,Sem.run,hr]
  split at h
  ·rename_i i v0 hc hf
   split at h
   ·rename_i key' hk
    cases h
    unfold Instr.mapUpdate
    simp only[Sem.run_bind,run_underlying hu,Result.andThen_ok,hg,A0y hc w,A0y hf w,A0y hk w,hs]
   ·cases h
  ·rename_i hc hf
   cases h
   unfold Instr.mapUpdate
   simp only[Sem.run_bind,run_underlying hu,Result.andThen_ok,hg,A0y hc w,A0y hf w,hs]
  ·cases h
 ·cases h
theorem A1x{t:TypeId}{buf:List Value}{es:Array MapEntry}{c r:Nat}{k:Value}{x:Option (Bool×Value)}{z:Value}{ok:Bool}(h:J3k P t buf k=some (x,z)){w:World}(hr:w.heap[r]?=some (.map es c))(hp:(es.toList.map kvOf).Perm (D0u buf)) :
  (Instr.lookup t (.map (some r)) k ok).run P w=.ok (match x with | some (true,v)=>U1p ok v | _=>U1m ok z) w:=by
 unfold J3k at h
 split at h
 ·rename_i kt et hu
  split at h
  ·rename_i z0 x0 hc1 hc2 hz hs hk
   simp only[Option.some.injEq,Prod.mk.injEq]at h
   obtain ⟨rfl,rfl⟩:=h
   obtain ⟨kd,hkd⟩:=Option.isSome_iff_exists.1 hk
   have hg:(getObj r).run P w=.ok (.map es c) w:=by simp[getObj,Sem.run,hr]
   have hck:(Instr.checkKey es.isEmpty 10000 kt k).run P w=.ok () w:=by
    cases es.isEmpty
    ·exact A0y hc1 w
    ·exact A0y hc2 w
   have hz':(zeroValue et).run P w=.ok z0 w:=by
    cases hi:P.info? et with
    | none=>simp[hi]at hz
    | some ti=>simp[hi]at hz;exact E0j hi hz w
   have hmem:∀e∈es.toList,kvOf e∈D0u buf:=fun e he=>hp.mem_iff.1 (List.mem_map.2 ⟨e,he,rfl⟩)
   have none_:(∀p∈D0u buf,eqT P 100 kt k p.1=some false)→(Instr.findKey kt k es.toList).run P w=.ok none w:=fun hn=>by
    have hn':∀e∈es.toList,eqT P 100 kt k e.key=some false:=fun e he=>hn _ (hmem e he)
    exact Q0t hkd w es.toList (fun e he=>⟨_,hn' e he⟩) (H1t w es.toList 0 hn')
   unfold Instr.lookup
   simp only[Sem.run_bind,run_underlying hu,Result.andThen_ok,hg,Sem.run_pure,hck]
   rcases Q0z hs with ⟨rfl,hn⟩ | ⟨v,rfl,hn⟩ | ⟨k',v,rest,rfl,h2,h3,h4⟩
   ·simp only[none_ hn,Result.andThen_ok,Sem.run_bind,hz',Sem.run_pure]
    cases ok<;>rfl
   ·simp only[none_ hn,Result.andThen_ok,Sem.run_bind,hz',Sem.run_pure]
    cases ok<;>rfl
   ·have hq:∀e∈es.toList,∃q,eqT P 100 kt k e.key=some q:=fun e he=>by
     rcases List.mem_cons.1 (h2.mem_iff.1 (hmem e he)) with he | he
     ·exact ⟨true,by rw[show e.key=k' from congrArg Prod.fst he];exact h3⟩
     ·exact ⟨false,h4 _ he⟩
    have hx:∃e∈es.toList,eqT P 100 kt k e.key=some true:=by
     obtain ⟨e,he,he2⟩:=List.mem_map.1 (hp.mem_iff.2 (h2.mem_iff.2 (List.mem_cons_self ..)))
     exact ⟨e,he,by rw[show e.key=k' from congrArg Prod.fst he2];exact h3⟩
    obtain ⟨A,e,B,k1,k2,k3⟩:=H1u w es.toList 0 hq hx
    have hv:e.val=v:=by
     rcases List.mem_cons.1 (h2.mem_iff.1 (hmem e (by rw[k1];simp))) with he | he
     ·exact congrArg Prod.snd he
     ·have :=h4 _ he
      rw[show (kvOf e).1=e.key from rfl,k2]at this
      cases this
    simp only[Q0t hkd w es.toList hq k3,Result.andThen_ok,hv]
    cases ok<;>rfl
  ·cases h
 ·cases h
theorem G1g{γ:Type}(f:γ→γ)(e:γ)(B:List γ):∀A:List γ,(A++e :: B).modify A.length f=A++f e :: B
 | []=>rfl
 | a :: A=>congrArg (List.cons a) (G1g f e B A)
theorem Y2q{t:TypeId}{buf buf':List Value}{es:Array MapEntry}{c r:Nat}{k v:Value}(h:putK P t buf k v=some buf'){w:World}(hr:w.heap[r]?=some (.map es c))(hp:(es.toList.map kvOf).Perm (D0u buf)) :
  ∃es' c',(Instr.mapUpdate t (.map (some r)) k v).run P w=.ok () {w with heap:=w.heap.setIfInBounds r (.map es' c')}∧(es'.toList.map kvOf).Perm (D0u buf'):=by
 unfold putK at h
 split at h
 ·rename_i kt et hu
  split at h
  ·rename_i hc hk
   obtain ⟨kd,hkd⟩:=Option.isSome_iff_exists.1 hk
   have hg:(getObj r).run P w=.ok (.map es c) w:=by simp[getObj,Sem.run,hr]
   have hs:∀o,(setObj r o).run P w=.ok () {w with heap:=w.heap.setIfInBounds r o}:=by intro o;simp[setObj,Sem.run,hr]
   have hmem:∀e∈es.toList,kvOf e∈D0u buf:=fun e he=>hp.mem_iff.1 (List.mem_map.2 ⟨e,he,rfl⟩)
   rcases Q1k h with ⟨hn,h2⟩ | ⟨k',v',rest,h2,h3,hb,h4,h5⟩
   ·have hn':∀e∈es.toList,eqT P 100 kt k e.key=some false:=fun e he=>hn _ (hmem e he)
    have hf:=Q0t hkd w es.toList (fun e he=>⟨_,hn' e he⟩) (H1t w es.toList 0 hn')
    refine ⟨es.push {key:=k,val:=v,born:=c},c+1,?_,?_⟩
    ·unfold Instr.mapUpdate
     simp only[Sem.run_bind,run_underlying hu,Result.andThen_ok,hg,A0y hc w,hf,hs]
    ·rw[Array.toList_push,List.map_append]
     exact (List.perm_append_comm.trans (hp.cons (k,v))).trans h2.symm
   ·have hq:∀e∈es.toList,∃q,eqT P 100 kt k e.key=some q:=fun e he=>by
     rcases List.mem_cons.1 (h2.mem_iff.1 (hmem e he)) with he | he
     ·exact ⟨true,by rw[show e.key=k' from congrArg Prod.fst he];exact h3⟩
     ·exact ⟨false,h4 _ he⟩
    have hx:∃e∈es.toList,eqT P 100 kt k e.key=some true:=by
     obtain ⟨e,he,he2⟩:=List.mem_map.1 (hp.mem_iff.2 (h2.mem_iff.2 (List.mem_cons_self ..)))
     exact ⟨e,he,by rw[show e.key=k' from congrArg Prod.fst he2];exact h3⟩
    obtain ⟨A,e,B,k1,k2,k3⟩:=H1u w es.toList 0 hq hx
    have he:kvOf e=(k',v'):=by
     rcases List.mem_cons.1 (h2.mem_iff.1 (hmem e (by rw[k1];simp))) with he | he
     ·exact he
     ·have :=h4 _ he
      rw[show (kvOf e).1=e.key from rfl,k2]at this
      cases this
    have hek:e.key=k':=congrArg Prod.fst he
    have hget:es[A.length]?=some e:=by
     rw[← Array.getElem?_toList,k1]
     simp
    have hstay:(Instr.keyThatStays (((es[A.length]?).map (·.key)).getD k) k).run P w=.ok k w:=by
     rw[hget]
     simp only[Option.map_some,Option.getD_some,hek]
     unfold Instr.keyThatStays
     rw[if_pos hb]
     rfl
    have hmod:(es.modify A.length fun e=>{e with key:=k,val:=v}).toList=A++{e with key:=k,val:=v} :: B:=by
     rw[Array.toList_modify,k1,G1g]
    refine ⟨es.modify A.length fun e=>{e with key:=k,val:=v},c,?_,?_⟩
    ·unfold Instr.mapUpdate
     simp only[Nat.zero_add]at k3
     simp only[Sem.run_bind,run_underlying hu,Result.andThen_ok,hg,A0y hc w,Q0t hkd w es.toList hq k3,hstay,hs]
    ·rw[hmod]
     simp only[List.map_append,List.map_cons]
     have h6:(A.map kvOf++B.map kvOf).Perm rest:=by
      have h7:((k',v') :: (A.map kvOf++B.map kvOf)).Perm ((k',v') :: rest):=by
       refine (List.perm_middle.symm.trans ?_).trans (hp.trans h2)
       rw[k1,List.map_append,List.map_cons,he]
      exact List.Perm.cons_inv h7
     exact (List.perm_middle.trans (h6.cons _)).trans h5.symm
  ·cases h
 ·cases h
theorem D1u{t:TypeId}{r:Option Operand}(hop:o.op=.makeMap t r)(ho:ops[i]?=some o)(hw:Want N ops o rd)(hg:Good tmps heap rd)(h:B1r N o rd r lo hi K=some res):Done P N ops i tmps heap lo hi K res:=by
 unfold B1r at h
 split at h
 ·rename_i hlt
  have hlt:=of_decide_eq_true hlt
  obtain ⟨rd',wr,h1,rfl,h2⟩:=J0d (P:=P) (lo:=lo) (hi:=hi) ho h hw fun w0 own σ u a w hf hr hn=>by
   obtain ⟨h3,h4⟩:=hf.allocO (hn lo (Nat.le_refl _) hlt) (.map #[] 0) rfl
   refine ⟨_,.map (some w.heap.size),_,?_,h4,?_,h3,?_⟩
   ·simp only[execOp,hop,Option.map_none,Instr.makeMap,Sem.run_bind,Result.andThen_ok,run_newObj,Sem.run_pure,World.alloc_eq]
   ·intro b hb hb2
    show (if b=lo then _ else σ b)=none
    rw[if_neg (by omega)];exact hb
   ·simp only[Rel];exact ⟨w.heap.size,by simp,rfl⟩
  exact ⟨rd',wr,h1,hg,h2⟩
 ·cases h
theorem G1t{t:TypeId}{m x y:Operand}(hop:o.op=.mapUpdate t m x y∨o.op=.insert t m x y)(ho:ops[i]?=some o)(hw:Want N ops o rd)(hg:Good tmps heap rd)(hsub:∀p∈D0q tmps o,p∈rd)(h:P3d P tmps heap o rd t m x y K=some res):Done P N ops i tmps heap lo hi K res:=by
 have hm:m∈o.op.operands:=by rcases hop with e | e<;>simp[e,Op.operands]
 have hx:x∈o.op.operands:=by rcases hop with e | e<;>simp[e,Op.operands]
 have hy:y∈o.op.operands:=by rcases hop with e | e<;>simp[e,Op.operands]
 unfold P3d at h
 split at h
 ·cases h
 ·rename_i hdst
  split at h
  ·rename_i b k v hm' hk' hv'
   split at h
   ·rename_i es c hh
    split at h
    ·rename_i es' c' hp
     refine ⟨_,_,h,hg.cons hh,M0m ho (fun w0 own σ u a w hf hr=>hw w0 own σ u a w hf fun y hy=>hr y (List.mem_cons_of_mem _ hy)) fun Q w0 own σ u a w hf hr hn K' hK=>?_⟩
     have hsub':∀p∈D0q tmps o,p∈(Loc.blk b,Con.obj (.map es c)) :: rd:=fun p hp=>List.mem_cons_of_mem _ (hsub p hp)
     have h1:=A0n hf (A0d hm hsub' hr) hm'
     have h2:=A0n hf (A0d hx hsub' hr) hk'
     have h3:=A0n hf (A0d hy hsub' hr) hv'
     simp only[Rel]at h1 h2 h3
     obtain ⟨rr,hr1,e1⟩:=h1
     have hu:=hr (.blk b,.obj (.map es c)) (List.mem_cons_self ..)
     obtain ⟨r2,o2,hr2,hheap,hden⟩:=hf.obj b _ hu
     have hden:o2=.map es c:=hden
     subst hden
     rw[hr1]at hr2
     cases hr2
     have hrun:=Y2p hp hheap
     have hexec:(execOp a.eval o).run P w=.ok .skip {w with heap:=w.heap.setIfInBounds rr (.map es' c')}:=by
      rcases hop with e | e<;>simp only[execOp,e,e1,h2,h3,Sem.run_bind,hrun,Result.andThen_ok,Sem.run_pure]
     unfold Oper.wp
     rw[hexec]
     simp only[Oper.upon]
     refine hK σ _ _ (Le.refl σ) (fun _ h _=>h) ?_
     rw[hdst]
     exact hf.setO hr1 rfl hu
    ·cases h
   ·rename_i n buf x1 x2 x3 x4 hh
    split at h
    ·rename_i buf' hp
     refine ⟨_,_,h,hg.cons hh,M0m ho (fun w0 own σ u a w hf hr=>hw w0 own σ u a w hf fun y hy=>hr y (List.mem_cons_of_mem _ hy)) fun Q w0 own σ u a w hf hr hn K' hK=>?_⟩
     have hsub':∀p∈D0q tmps o,p∈(Loc.blk b,Con.obj (.chan (n+1) buf x1 x2 x3 x4)) :: rd:=fun p hp=>List.mem_cons_of_mem _ (hsub p hp)
     have h1:=A0n hf (A0d hm hsub' hr) hm'
     have h2:=A0n hf (A0d hx hsub' hr) hk'
     have h3:=A0n hf (A0d hy hsub' hr) hv'
     simp only[Rel]at h1 h2 h3
     obtain ⟨rr,hr1,e1⟩:=h1
     have hu:=hr (.blk b,.obj (.chan (n+1) buf x1 x2 x3 x4)) (List.mem_cons_self ..)
     obtain ⟨r2,o2,hr2,hheap,hden⟩:=hf.obj b _ hu
     obtain ⟨es,c,rfl,hperm⟩:=hden
     rw[hr1]at hr2
     cases hr2
     obtain ⟨es',c',hrun,hperm'⟩:=Y2q hp hheap hperm
     have hexec:(execOp a.eval o).run P w=.ok .skip {w with heap:=w.heap.setIfInBounds rr (.map es' c')}:=by
      rcases hop with e | e<;>simp only[execOp,e,e1,h2,h3,Sem.run_bind,hrun,Result.andThen_ok,Sem.run_pure]
     unfold Oper.wp
     rw[hexec]
     simp only[Oper.upon]
     refine hK σ _ _ (Le.refl σ) (fun _ h _=>h) ?_
     rw[hdst]
     exact hf.setD hr1 (ob:=.chan (n+1) (List.toArray buf') x1 x2 x3 x4) (ob1:=.map es' c') ⟨es',c',rfl,hperm'⟩ hu
    ·cases h
   ·cases h
  ·cases h
theorem U1z{t:TypeId}{m x:Operand}{ok:Bool}(hop:o.op=.lookup t m x ok)(ho:ops[i]?=some o)(hw:Want N ops o rd)(hg:Good tmps heap rd)(hsub:∀p∈D0q tmps o,p∈rd)(h:N2n P N tmps heap o rd t m x ok K=some res):Done P N ops i tmps heap lo hi K res:=by
 have hm:m∈o.op.operands:=by simp[hop,Op.operands]
 have hx:x∈o.op.operands:=by simp[hop,Op.operands]
 unfold N2n at h
 split at h
 ·rename_i b k hm' hk'
  split at h
  ·rename_i es c hh
   split at h
   ·rename_i v hv
    refine A0v ho (fun w0 own σ u a w hf hr=>hw w0 own σ u a w hf fun y hy=>hr y (List.mem_cons_of_mem _ hy)) (hg.cons hh) h fun w0 own σ u a' w hf hr=>?_
    have hsub':∀p∈D0q tmps o,p∈(Loc.blk b,Con.obj (.map es c)) :: rd:=fun p hp=>List.mem_cons_of_mem _ (hsub p hp)
    have h1:=A0n hf (A0d hm hsub' hr) hm'
    have h2:=A0n hf (A0d hx hsub' hr) hk'
    simp only[Rel]at h1 h2
    obtain ⟨rr,hr1,e1⟩:=h1
    obtain ⟨r2,o2,hr2,hheap,hden⟩:=hf.obj b _ (hr (.blk b,.obj (.map es c)) (List.mem_cons_self ..))
    have hden:o2=.map es c:=hden
    subst hden
    rw[hr1]at hr2
    cases hr2
    refine ⟨v,?_,by simp only[Rel]⟩
    simp only[execOp,hop,e1,h2,Sem.run_bind,H2x hv hheap,Result.andThen_ok,Sem.run_pure]
   ·cases h
  ·rename_i buf x1 x2 x3 x4 hh
   split at h
   ·rename_i y v hv
    cases y with
    | false=>cases h
    | true =>
     rw[cond_true]at h
     refine A0v ho (fun w0 own σ u a w hf hr=>hw w0 own σ u a w hf fun y hy=>hr y (List.mem_cons_of_mem _ hy)) (hg.cons hh) h fun w0 own σ u a' w hf hr=>?_
     have hsub':∀p∈D0q tmps o,p∈(Loc.blk b,Con.obj (.chan 0 buf x1 x2 x3 x4)) :: rd:=fun p hp=>List.mem_cons_of_mem _ (hsub p hp)
     have h1:=A0n hf (A0d hm hsub' hr) hm'
     have h2:=A0n hf (A0d hx hsub' hr) hk'
     simp only[Rel]at h1 h2
     obtain ⟨rr,hr1,e1⟩:=h1
     obtain ⟨r2,o2,hr2,hheap,hden⟩:=hf.obj b _ (hr (.blk b,.obj (.chan 0 buf x1 x2 x3 x4)) (List.mem_cons_self ..))
     obtain ⟨es,c,rfl,hperm⟩:=hden
     rw[hr1]at hr2
     cases hr2
     refine ⟨U1p ok v,?_,by simp only[Rel]⟩
     have hrun:=H2y (ok:=ok) hv hheap hperm
     simp only[execOp,hop,e1,h2,Sem.run_bind,hrun,Result.andThen_ok,Sem.run_pure]
   ·cases h
  ·rename_i n buf x1 x2 x3 x4 hh
   split at h
   ·rename_i p v z hv
    cases p with
    | true =>
     rw[cond_true]at h
     refine A0v ho (fun w0 own σ u a w hf hr=>hw w0 own σ u a w hf fun y hy=>hr y (List.mem_cons_of_mem _ hy)) (hg.cons hh) h fun w0 own σ u a' w hf hr=>?_
     have hsub':∀p∈D0q tmps o,p∈(Loc.blk b,Con.obj (.chan (n+1) buf x1 x2 x3 x4)) :: rd:=fun p hp=>List.mem_cons_of_mem _ (hsub p hp)
     have h1:=A0n hf (A0d hm hsub' hr) hm'
     have h2:=A0n hf (A0d hx hsub' hr) hk'
     simp only[Rel]at h1 h2
     obtain ⟨rr,hr1,e1⟩:=h1
     obtain ⟨r2,o2,hr2,hheap,hden⟩:=hf.obj b _ (hr (.blk b,.obj (.chan (n+1) buf x1 x2 x3 x4)) (List.mem_cons_self ..))
     obtain ⟨es,c,rfl,hperm⟩:=hden
     rw[hr1]at hr2
     cases hr2
     have hrun:(Instr.lookup t (.map (some rr)) k ok).run P w=.ok (U1p ok v) w:=A1x (ok:=ok) hv hheap hperm
     refine ⟨U1p ok v,?_,by simp only[Rel]⟩
     simp only[execOp,hop,e1,h2,Sem.run_bind,hrun,Result.andThen_ok,Sem.run_pure]
    | false =>
     rw[cond_false]at h
     refine A0v ho (fun w0 own σ u a w hf hr=>hw w0 own σ u a w hf fun y hy=>hr y (List.mem_cons_of_mem _ hy)) (hg.cons hh) h fun w0 own σ u a' w hf hr=>?_
     have hsub':∀p∈D0q tmps o,p∈(Loc.blk b,Con.obj (.chan (n+1) buf x1 x2 x3 x4)) :: rd:=fun p hp=>List.mem_cons_of_mem _ (hsub p hp)
     have h1:=A0n hf (A0d hm hsub' hr) hm'
     have h2:=A0n hf (A0d hx hsub' hr) hk'
     simp only[Rel]at h1 h2
     obtain ⟨rr,hr1,e1⟩:=h1
     obtain ⟨r2,o2,hr2,hheap,hden⟩:=hf.obj b _ (hr (.blk b,.obj (.chan (n+1) buf x1 x2 x3 x4)) (List.mem_cons_self ..))
     obtain ⟨es,c,rfl,hperm⟩:=hden
     rw[hr1]at hr2
     cases hr2
     have hrun:(Instr.lookup t (.map (some rr)) k ok).run P w=.ok (U1m ok z) w:=A1x (ok:=ok) hv hheap hperm
     refine ⟨U1m ok z,?_,by simp only[Rel]⟩
     simp only[execOp,hop,e1,h2,Sem.run_bind,hrun,Result.andThen_ok,Sem.run_pure]
   ·rename_i z hv
    refine A0v ho (fun w0 own σ u a w hf hr=>hw w0 own σ u a w hf fun y hy=>hr y (List.mem_cons_of_mem _ hy)) (hg.cons hh) h fun w0 own σ u a' w hf hr=>?_
    have hsub':∀p∈D0q tmps o,p∈(Loc.blk b,Con.obj (.chan (n+1) buf x1 x2 x3 x4)) :: rd:=fun p hp=>List.mem_cons_of_mem _ (hsub p hp)
    have h1:=A0n hf (A0d hm hsub' hr) hm'
    have h2:=A0n hf (A0d hx hsub' hr) hk'
    simp only[Rel]at h1 h2
    obtain ⟨rr,hr1,e1⟩:=h1
    obtain ⟨r2,o2,hr2,hheap,hden⟩:=hf.obj b _ (hr (.blk b,.obj (.chan (n+1) buf x1 x2 x3 x4)) (List.mem_cons_self ..))
    obtain ⟨es,c,rfl,hperm⟩:=hden
    rw[hr1]at hr2
    cases hr2
    have hrun:(Instr.lookup t (.map (some rr)) k ok).run P w=.ok (U1m ok z) w:=A1x (ok:=ok) hv hheap hperm
    refine ⟨U1m ok z,?_,by simp only[Rel]⟩
    simp only[execOp,hop,e1,h2,Sem.run_bind,hrun,Result.andThen_ok,Sem.run_pure]
   ·cases h
  ·cases h
 ·cases h
theorem J1z{H:Hp}{u:U}(h:∀p∈hpRd H,u p.1=some p.2){b:Nat}{c:Con}(hb:hget H b=some c):u (.blk b)=some c:=by
 have:(b,c)∈H:=by
  clear h
  induction H with
  | nil=>simp[hget]at hb
  | cons p H ih =>
   obtain ⟨b',c'⟩:=p
   simp only[hget]at hb
   split at hb
   ·rename_i e;cases hb;rw[Nat.eq_of_beq_eq_true e];simp
   ·exact List.mem_cons_of_mem _ (ih hb)
 exact h (.blk b,c) (List.mem_map.2 ⟨(b,c),this,rfl⟩)
theorem N1t(l:List Nat):Good tmps heap (hpRd (C0u heap l)):=by
 induction l with
 | nil=>intro x hx;simp[C0u,hpRd]at hx
 | cons b l ih =>
  simp only[C0u]
  split
  ·rename_i c hc
   exact Good.cons hc ih
  ·exact ih
theorem Q0j {f : FuncId} {fn : Func} (hf : P.funcs[f]? = some fn) (h : (fn.body.isSome && !(fn.name == "runtime.NumGoroutine")) = true) (args : Array Value) (w : World) : (callFunc f args).run P w = .ok (.enter f args) w := by
 simp only[Bool.and_eq_true]at h
 obtain ⟨h1,h2⟩:=h
 have h2 : (fn.name == "runtime.NumGoroutine") = false := by simpa using h2
 have h3:fn.body.isNone=false:=by cases hb:fn.body<;>simp_all
 unfold callFunc
 simp only[Sem.run_bind,run_program,Result.andThen_ok,hf,h2,h3,Bool.false_eq_true,if_false,Sem.run_pure]
theorem V1v{f:FuncId}{fn:Func}(hf:P.funcs[f]?=some fn)(h:U1a fn=true){x y c:Int}(hx:0≤x)(hy:0≤y)(hc0:0≤c)(hc:c≤1)(w:World) :
  (callFunc f #[.int .u64 x,.int .u64 y,.int .u64 c]).run P w=.ok (.value (.tuple #[.int .u64 ((x+y+c) % 18446744073709551616),.int .u64 ((x+y+c) / 18446744073709551616)])) w:=by
 simp only[U1a,Bool.and_eq_true]at h
 obtain ⟨h1,h2,h3⟩:=h
 have h2:=eq_of_beq h2
 have h3:=eq_of_beq h3
 have e1:Extern.findNext fn=none:=by
  unfold Extern.findNext
  rw[h2,h3]
  kernel_rfl
 have e2:Extern.find fn=some add64Entry:=by
  unfold Extern.find
  rw[h2]
  kernel_rfl
 rw[run_callFunc_extern hf (by rw[h2];decide) h1 e1 e2,run_add64 x y c hx hy hc0 hc]
 rfl
theorem K1r{c:Call}(hop:o.op=.call c)(hcal:c.callee=.builtin .append)(ho:ops[i]?=some o)(hw:Want N ops o rd)(hg:Good tmps heap rd)(hsub:∀p∈D0q tmps o,p∈rd)(h:K1q P N tmps heap o rd c K=some res):Done P N ops i tmps heap lo hi K res:=by
 unfold K1q at h
 split at h
 ·rename_i x y t t2 hargs hts
  have hxm:x∈c.args:=by
   have:x∈c.args.toList:=by rw[hargs];simp
   simpa using this
  have hym:y∈c.args:=by
   have:y∈c.args.toList:=by rw[hargs];simp
   simpa using this
  have hx:x∈o.op.operands:=by simp only[hop,Op.operands,Call.operands,hcal];simp[hxm]
  have hy:y∈o.op.operands:=by simp only[hop,Op.operands,Call.operands,hcal];simp[hym]
  split at h
  ·rename_i b off len cap b2 off2 n c2 e e' hx' hy' hu hu'
   split at h
   ·rename_i e1 cs e2 cs2 ti hb hb2 hi'
    split at h
    ·rename_i hc
     simp only[Bool.and_eq_true]at hc
     obtain ⟨q1,q2,q3,q4,q5⟩:=hc
     have q1:=Nat.eq_of_beq_eq_true q1
     have q2:=Nat.le_of_ble_eq_true q2
     have q3:=Nat.le_of_ble_eq_true q3
     have q4:=Nat.eq_of_beq_eq_true q4
     obtain ⟨rd',wr,k1,rfl,k2⟩:=J0d (P:=P) (lo:=lo) (hi:=hi) ho h (fun w0 own σ u a w hf hr=>hw w0 own σ u a w hf fun z hz=>hr z (List.mem_cons_of_mem _ (List.mem_cons_of_mem _ hz))) fun w0 own σ u a w hf hr hn=>by
      have hsub':∀p∈D0q tmps o,p∈(Loc.blk b,Con.row e1 cs) :: (Loc.blk b2,Con.row e2 cs2) :: rd:=fun p hp=>List.mem_cons_of_mem _ (List.mem_cons_of_mem _ (hsub p hp))
      have h1:=A0n hf (A0d hx hsub' hr) hx'
      have h2:=A0n hf (A0d hy hsub' hr) hy'
      simp only[Rel]at h1 h2
      obtain ⟨r1,hr1,ev1⟩:=h1
      obtain ⟨r2,hr2,ev2⟩:=h2
      have hu1:=hr (.blk b,.row e1 cs) (List.mem_cons_self ..)
      obtain ⟨s1,vs1,hs1,hheap1,hrels1⟩:=hf.row b e1 cs hu1
      obtain ⟨s2,vs2,hs2,hheap2,hrels2⟩:=hf.row b2 e2 cs2 (hr (.blk b2,.row e2 cs2) (List.mem_cons_of_mem _ (List.mem_cons_self ..)))
      rw[hr1]at hs1
      cases hs1
      rw[hr2]at hs2
      cases hs2
      have hnews:Rels σ ((cs2.drop off2).take n) ((vs2.drop off2).take n):=(hrels2.drop off2).take n
      have hnl:((vs2.drop off2).take n).length=n:=by rw[← hnews.length,q4]
      have hload:=E0a (P:=P) w r2 off2 n e2 (0,0) vs2 _ hheap2 rfl hnl
      have hstore:=H0g (P:=P) r1 e1 ((vs2.drop off2).take n) (off+len) 0 vs1 w hheap1 (by rw[hnl,← hrels1.length];omega) (B1m hnews q5)
      refine ⟨σ,.slice (some ⟨r1,off,none⟩) (len+n) cap,w.setRow r1 (List.toArray (Ab.splice vs1 (off+len) ((vs2.drop off2).take n))),?_,Le.refl σ,fun _ h _=>h,hf.setRow hr1 hu1 hheap1 (Rels.splice hrels1 hnews),by simp only[Rel];exact ⟨r1,hr1,rfl⟩⟩
      have ec:c.args.map a.eval=#[.slice (some ⟨r1,off,none⟩) len cap,.slice (some ⟨r2,off2,none⟩) n c2]:=by
       apply Array.toList_inj.1
       rw[Array.toList_map,hargs]
       simp[ev1,ev2]
      have et:c.argTypes=#[t,t2]:=by
       apply Array.toList_inj.1
       rw[hts]
      have hrun:(Builtin.append_ #[t,t2] o.type #[.slice (some ⟨r1,off,none⟩) len cap,.slice (some ⟨r2,off2,none⟩) n c2]).run P w=.ok (.slice (some ⟨r1,off,none⟩) (len+n) cap) (w.setRow r1 (List.toArray (Ab.splice vs1 (off+len) ((vs2.drop off2).take n)))):=by
       simp only[Nat.add_zero]at hstore
       simp[Builtin.append_,run_underlying hu,run_underlying hu',sizeOf,typeInfo,hi',Builtin.lenOf,q1,q2,Builtin.firstCells,hload,G0a,hstore]
      have ec':c.args=#[x,y]:=by apply Array.toList_inj.1;rw[hargs]
      simp only[execOp,hop,resolve,hcal,invoke,builtin,Sem.run_bind,Sem.run_pure,Result.andThen_ok,et]
      rw[ec]
      simp only[hrun,Result.andThen_ok]
     exact ⟨_,wr,k1,(hg.cons hb2).cons hb,k2⟩
    ·cases h
   ·cases h
  ·exact D0a ho hw hg hsub h
 ·exact D0a ho hw hg hsub h
theorem Y0w{t:TypeId}{x y:Operand}(hop:o.op=.makeSlice t x y)(ho:ops[i]?=some o)(hw:Want N ops o rd)(hg:Good tmps heap rd)(hsub:∀p∈D0q tmps o,p∈rd)(h:T0t P N tmps o rd t x y lo hi K=some res):Done P N ops i tmps heap lo hi K res:=by
 have hx:x∈o.op.operands:=by simp[hop,Op.operands]
 have hy:y∈o.op.operands:=by simp[hop,Op.operands]
 unfold T0t at h
 split at h
 ·rename_i k1 l k2 c e hx' hy' hu
  split at h
  ·rename_i ti hi'
   split at h
   ·rename_i z hz hc
    simp only[Bool.and_eq_true,decide_eq_true_eq]at hc
    obtain ⟨⟨c1,c2,c3,c4⟩,c5,c6⟩:=hc
    have c6:=Nat.eq_of_beq_eq_true c6
    split at h
    ·rename_i v hv
     split at h
     ·cases h
     ·rename_i hc0
      have hc0:c.toNat≠0:=fun e=>by rw[e]at hc0;cases hc0
      obtain ⟨rd',wr,k1,rfl,k2⟩:=J0d (P:=P) (lo:=lo) (hi:=hi) ho h hw fun w0 own σ u a w hf hr hn=>by
       have h1:=A0n hf (A0d hx hsub hr) hx'
       have h2:=A0n hf (A0d hy hsub hr) hy'
       simp only[Rel]at h1 h2
       have hrep:Rels σ (List.replicate c.toNat (AV.val v)) (List.replicate c.toNat v):=by
        have :=Rels.vals (σ:=σ) (List.replicate c.toNat v)
        rw[List.map_replicate]at this
        exact this
       obtain ⟨h3,h4⟩:=hf.alloc (hn lo (Nat.le_refl _) c5) (e:=e) hrep
       refine ⟨_,.slice (some ⟨w.heap.size,0,none⟩) l.toNat c.toNat,_,?_,h4,?_,h3,?_⟩
       ·have w1:IntKind.i64.wrap l=l:=by
         simp[IntKind.wrap,IntKind.bits,IntKind.signed]
         omega
        have w2:IntKind.i64.wrap c=c:=by
         simp[IntKind.wrap,IntKind.bits,IntKind.signed]
         omega
        have hzc:z.cells=#[v]:=by
         apply Array.toList_inj.1
         rw[hv]
        have hcells:((Array.range (c.toNat*ti.size)).map (z.cells[· % z.cells.size]!))=List.toArray (List.replicate c.toNat v):=by
         rw[hzc,c6,Nat.mul_one]
         apply Array.ext
         ·simp
         ·intro j hj1 hj2
          simp[Nat.mod_one]
        have hn0:¬ c.toNat*ti.size=0:=by rw[c6];omega
        have hl1:¬ (c<0):=by omega
        have hl2:¬ ((ti.bytes:Int)*c>2^48):=by omega
        have hl3:¬ (l<0):=by omega
        have hl4:¬ (l>c):=by omega
        have hl5:(decide (c<0)||decide ((ti.bytes:Int)*c>2^48))=false:=by rw[decide_eq_false hl1,decide_eq_false hl2];rfl
        have hif:((decide (c<0)||decide ((ti.bytes:Int)*c>2^48))||decide (l<0)||decide (l>c))=false:=by rw[hl5,decide_eq_false hl3,decide_eq_false hl4];rfl
        simp only[execOp,hop,h1,h2,Sem.run_bind]
        unfold Instr.makeSlice
        have hti:(typeInfo e).run P w=.ok ti w:=run_typeInfo w hi'
        simp only[Sem.run_bind,run_underlying hu,Result.andThen_ok,asInt,asIntOf,Sem.run_pure,hti,w1,w2,Sem.run_ite]
        rw[if_neg (by rw[hif];simp)]
        simp only[run_askRoom,B0q hi',if_neg hn0,E0j hi' hz,hcells,newRow,run_newObj,World.alloc_eq,Sem.run_bind,Result.andThen_ok,Sem.run_pure]
       ·intro b hb hb2
        show (if b=lo then _ else σ b)=none
        rw[if_neg (by omega)];exact hb
       ·simp only[Rel];exact ⟨w.heap.size,by simp,rfl⟩
      exact ⟨rd',wr,k1,hg,k2⟩
    ·cases h
   ·cases h
  ·cases h
 ·cases h
theorem U1u{call:R0c β}(hcall:D0t P call){c:Call}(hop:o.op=.call c)(ho:ops[i]?=some o)(hw:Want N ops o rd)(hg:Good tmps heap rd)(hsub:∀p∈D0q tmps o,p∈rd)(h:N2j P call N tmps heap o rd c lo hi K=some res):Done P N ops i tmps heap lo hi K res:=by
 unfold N2j at h
 split at h
 ·rename_i f hc
  split at h
  ·rename_i fid first cap args hf' ha
   split at h
   ·rename_i fn hfn
    split at h
    ·rename_i hb
     simp only at h
     split at h
     ·rename_i hno
      obtain ⟨r,H',T,h1,hfacts,hT⟩:=hcall _ _ _ _ _ _ _ h
      split at h1
      ·rename_i hcov
       have hg':Good tmps heap (hpRd (C0u heap (reach 1000 heap (E0e (first++args++cap)) []))++rd):=(N1t _).append hg
       obtain ⟨rd',wr,h2,rfl,h3⟩:=N1g (P:=P) (lo:=lo) (hi:=hi) ho h1 (fun w0 own σ u a w hf hr=>hw w0 own σ u a w hf fun y hy=>hr y (List.mem_append_right _ hy)) fun Q w0 own σ u a w hf hr hn K' hK=>by
        have hr1:∀p∈rd,u p.1=some p.2:=fun p hp=>hr p (List.mem_append_right _ hp)
        have hr2:∀p∈hpRd _,u p.1=some p.2:=fun p hp=>hr p (List.mem_append_left _ hp)
        have hfo:f∈o.op.operands:=by simp[hop,Op.operands,Call.operands,hc]
        have k1:=A0n hf (A0d hfo hsub hr1) hf'
        simp only[Rel]at k1
        obtain ⟨xs,ys,e1,k2,k3⟩:=k1
        have k4:=K0v hf (xs:=c.args.toList) (fun x hx=>A0d (o:=o) (by simp only[hop,Op.operands,Call.operands,hc];simp at hx;simp[hx]) hsub hr1) ha
        have hvals:Rels σ ((first++args)++cap) ((xs++c.args.toList.map a.eval)++ys):=Rels.append (Rels.append k2 k4) k3
        have hH:Y0u σ (C0u heap (reach 1000 heap (E0e (first++args++cap)) [])) w:=by
         intro b cc hbb
         have :=J1z hr2 hbb
         cases cc with
         | row e cs=>exact hf.row b e cs this
         | obj ob=>exact hf.obj b ob this
         | av x=>trivial
        have hcalls:=hfacts σ _ w hf.inj hf.bound hvals hH hn
        have hexec:(execOp a.eval o).run P w=.ok (.enter fid (List.toArray ((xs++c.args.toList.map a.eval)++ys))) w:=by
         have hargs:(List.toArray xs++c.args.map a.eval)++List.toArray ys=List.toArray ((xs++c.args.toList.map a.eval)++ys):=by
          apply Array.toList_inj.1;simp
         simp only[execOp,hop,resolve,hc,e1,Deferred.ofValue,Sem.run_bind,Sem.run_pure,Result.andThen_ok,invoke,Q0j hfn hb,hargs]
        unfold Oper.wp
        rw[hexec]
        simp only[Oper.upon]
        refine Calls.mono hcalls fun e w' he=>?_
        obtain ⟨σ',v,rfl,p1,p2,p3,p4,p5,p6,p7,p8,p9,p10,p11,p12⟩:=he
        rw[Z1j fun p hp hTp=>J1z hr2 (hT p hp hTp)]at hK
        exact hK σ' v w' p1 p2 (hf.call (fun b cc hbb=>J1z hr2 hbb) hno hcov p1 p4 p5 p6 p7 p8 p9 p10 p11 p12) p3
       exact ⟨_,wr,h2,hg',h3⟩
      ·cases h1
     ·cases h
    ·rename_i hb
     unfold N2h at h
     split at h
     ·rename_i x y c' hall
      split at h
      ·rename_i hadd
       cases hcond:(decide (0≤x)&&(decide (0≤y)&&(decide (0≤c')&&decide (c'≤1)))) with
       | false=>rw[hcond]at h;cases h
       | true =>
        rw[hcond,cond_true]at h
        simp only[Bool.and_eq_true,decide_eq_true_eq]at hcond
        refine A0v ho hw hg h fun w0 own σ u a w hf hr=>?_
        have hfo:f∈o.op.operands:=by simp[hop,Op.operands,Call.operands,hc]
        have k1:=A0n hf (A0d hfo hsub hr) hf'
        simp only[Rel]at k1
        obtain ⟨xs,ys,e1,k2,k3⟩:=k1
        have k4:=K0v hf (xs:=c.args.toList) (fun x hx=>A0d (o:=o) (by simp only[hop,Op.operands,Call.operands,hc];simp at hx;simp[hx]) hsub hr) ha
        have hvals:Rels σ ((first++args)++cap) ((xs++c.args.toList.map a.eval)++ys):=Rels.append (Rels.append k2 k4) k3
        rw[hall]at hvals
        have hl:(xs++c.args.toList.map a.eval)++ys=[.int .u64 x,.int .u64 y,.int .u64 c']:=by
         generalize (xs++c.args.toList.map a.eval)++ys=L at hvals
         simp only[Rels]at hvals
         obtain ⟨v1,L1,rfl,r1,v2,L2,rfl,r2,v3,L3,rfl,r3,rfl⟩:=hvals
         simp only[Rel]at r1 r2 r3
         rw[r1,r2,r3]
        refine ⟨.tuple #[.int .u64 ((x+y+c') % 18446744073709551616),.int .u64 ((x+y+c') / 18446744073709551616)],?_,by simp only[Rel]⟩
        have hargs:(List.toArray xs++c.args.map a.eval)++List.toArray ys=#[.int .u64 x,.int .u64 y,.int .u64 c']:=by
         apply Array.toList_inj.1;simpa using hl
        simp only[execOp,hop,resolve,hc,e1,Deferred.ofValue,Sem.run_bind,Sem.run_pure,Result.andThen_ok,invoke,hargs,V1v hfn hadd hcond.1 hcond.2.1 hcond.2.2.1 hcond.2.2.2]
      ·cases h
     ·cases h
   ·cases h
  ·cases h
 ·rename_i hc
  split at h
  ·rename_i x t ts hx hat
   split at h
   ·rename_i b off len cap ha
    split at h
    ·rename_i e hu
     refine A0v ho hw hg h fun w0 own σ u a w hf hr=>?_
     have hxm:x∈c.args:=by
      have:x∈c.args.toList:=by rw[hx];simp
      simpa using this
     have h1:=A0n hf (A0d (x:=x) (by simp only[hop,Op.operands,Call.operands,hc];simp[hxm]) hsub hr) ha
     simp only[Rel]at h1
     obtain ⟨r,_,e1⟩:=h1
     refine ⟨.int .i64 len,?_,by simp only[Rel]⟩
     have hargs:c.args=#[x]:=by apply Array.toList_inj.1;rw[hx]
     have hat':c.argTypes[0]?=some t:=by rw[← Array.getElem?_toList,hat];rfl
     simp[execOp,hop,resolve,hc,invoke,builtin,hargs,Builtin.len_,hat',run_underlying hu,e1,goInt]
    ·cases h
   ·exact D0a ho hw hg hsub h
  ·cases h
 ·rename_i hc;exact K1r hop hc ho hw hg hsub h
 ·exact D0a ho hw hg hsub h
 ·cases h
end
end Go.Ab
