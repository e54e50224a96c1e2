/- A part of the proofs: lemmas, no statement of their own; no condition. -/
import Derived.Test.YtoocjipllmkjcaaGreatGMaA
import Derived.Test.YtoocjipllmkjcaaGreatProg
import Derived.Test.YtoocjipllmkjcaaGreatGAbM
import Derived.KernelRfl
import Derived.Lib.ItoaNum
import Derived.Shelf.Small.Bits
import Derived.Shelf.Strconv.Itoa0
import Derived.Shelf.Bits.Mul64
namespace Go.Ab
open Go Go.Proofs
def lkey:Nat→Value
 | 0=>.agg #[.int .i64 1,.int .i64 1]
 | 1=>.agg #[.int .i64 2,.int .i64 1]
 | 2=>.agg #[.int .i64 2,.int .i64 4]
 | 3=>.agg #[.int .i64 2,.int .i64 2]
 | _=>.agg #[.int .i64 2,.int .i64 8]
def lone:Value:=.int .i64 1
def lbuf:List Value:=[lkey 0,lone,lkey 1,lone,lkey 2,lone,lkey 3,lone,lkey 4,lone]
def C4q:Option Code→Array Oper
 | some (.seq _ (.seq (.region _ ops _) _))=>ops
 | _=>#[]
noncomputable def lops:Array Oper:=C4q Tryz.f225.body
theorem U0y:lops.size=13:=by kernel_rfl
noncomputable def lsig(i:Nat):Option (Op×Option Nat×Bool×List Nat):=(lops[i]?).map fun o=>(o.op,o.dst,o.guard.isNone,E0v o)
theorem ls0:lsig 0=some (.makeMap 251 none,some 1,true,[]):=by kernel_rfl
def lps:Nat→Array (Nat×Operand)
 | 0=>#[(0,.const (.int .i64 1)),(1,.const (.int .i64 1))]
 | 1=>#[(0,.const (.int .i64 2)),(1,.const (.int .i64 1))]
 | 2=>#[(0,.const (.int .i64 2)),(1,.const (.int .i64 4))]
 | 3=>#[(0,.const (.int .i64 2)),(1,.const (.int .i64 2))]
 | _=>#[(0,.const (.int .i64 2)),(1,.const (.int .i64 8))]
theorem lsB0:lsig 1=some (.build 254 (lps 0),some 2,true,[]):=by kernel_rfl
theorem lbd0(a:Act)(w:World):(Instr.build 254 ((lps 0).map fun p=>(p.1,a.eval p.2))).run Tryz.prog w=.ok (lkey 0) w:=by kernel_rfl
theorem lck0:D0e Tryz.prog (Instr.checkKey false 10000 254 (lkey 0))=some ():=by kernel_rfl
theorem D5x:eqT Tryz.prog 100 254 (lkey 0) (lkey 1)=some false:=by kernel_rfl
theorem D5y:eqT Tryz.prog 100 254 (lkey 0) (lkey 2)=some false:=by kernel_rfl
theorem D5z:eqT Tryz.prog 100 254 (lkey 0) (lkey 3)=some false:=by kernel_rfl
theorem E5a:eqT Tryz.prog 100 254 (lkey 0) (lkey 4)=some false:=by kernel_rfl
theorem lsB1:lsig 3=some (.build 254 (lps 1),some 3,true,[]):=by kernel_rfl
theorem lbd1(a:Act)(w:World):(Instr.build 254 ((lps 1).map fun p=>(p.1,a.eval p.2))).run Tryz.prog w=.ok (lkey 1) w:=by kernel_rfl
theorem lck1:D0e Tryz.prog (Instr.checkKey false 10000 254 (lkey 1))=some ():=by kernel_rfl
theorem E5b:eqT Tryz.prog 100 254 (lkey 1) (lkey 0)=some false:=by kernel_rfl
theorem E5c:eqT Tryz.prog 100 254 (lkey 1) (lkey 2)=some false:=by kernel_rfl
theorem E5d:eqT Tryz.prog 100 254 (lkey 1) (lkey 3)=some false:=by kernel_rfl
theorem E5e:eqT Tryz.prog 100 254 (lkey 1) (lkey 4)=some false:=by kernel_rfl
theorem lsB2:lsig 5=some (.build 254 (lps 2),some 4,true,[]):=by kernel_rfl
theorem lbd2(a:Act)(w:World):(Instr.build 254 ((lps 2).map fun p=>(p.1,a.eval p.2))).run Tryz.prog w=.ok (lkey 2) w:=by kernel_rfl
theorem lck2:D0e Tryz.prog (Instr.checkKey false 10000 254 (lkey 2))=some ():=by kernel_rfl
theorem E5g:eqT Tryz.prog 100 254 (lkey 2) (lkey 0)=some false:=by kernel_rfl
theorem E5h:eqT Tryz.prog 100 254 (lkey 2) (lkey 1)=some false:=by kernel_rfl
theorem E5j:eqT Tryz.prog 100 254 (lkey 2) (lkey 3)=some false:=by kernel_rfl
theorem E5k:eqT Tryz.prog 100 254 (lkey 2) (lkey 4)=some false:=by kernel_rfl
theorem lsB3:lsig 7=some (.build 254 (lps 3),some 5,true,[]):=by kernel_rfl
theorem lbd3(a:Act)(w:World):(Instr.build 254 ((lps 3).map fun p=>(p.1,a.eval p.2))).run Tryz.prog w=.ok (lkey 3) w:=by kernel_rfl
theorem lck3:D0e Tryz.prog (Instr.checkKey false 10000 254 (lkey 3))=some ():=by kernel_rfl
theorem E5m:eqT Tryz.prog 100 254 (lkey 3) (lkey 0)=some false:=by kernel_rfl
theorem E5n:eqT Tryz.prog 100 254 (lkey 3) (lkey 1)=some false:=by kernel_rfl
theorem E5p:eqT Tryz.prog 100 254 (lkey 3) (lkey 2)=some false:=by kernel_rfl
theorem E5q:eqT Tryz.prog 100 254 (lkey 3) (lkey 4)=some false:=by kernel_rfl
theorem lsB4:lsig 9=some (.build 254 (lps 4),some 6,true,[]):=by kernel_rfl
theorem lbd4(a:Act)(w:World):(Instr.build 254 ((lps 4).map fun p=>(p.1,a.eval p.2))).run Tryz.prog w=.ok (lkey 4) w:=by kernel_rfl
theorem lck4:D0e Tryz.prog (Instr.checkKey false 10000 254 (lkey 4))=some ():=by kernel_rfl
theorem E5r:eqT Tryz.prog 100 254 (lkey 4) (lkey 0)=some false:=by kernel_rfl
theorem E5t:eqT Tryz.prog 100 254 (lkey 4) (lkey 1)=some false:=by kernel_rfl
theorem E5u:eqT Tryz.prog 100 254 (lkey 4) (lkey 2)=some false:=by kernel_rfl
theorem E5v:eqT Tryz.prog 100 254 (lkey 4) (lkey 3)=some false:=by kernel_rfl
theorem lsB(i:Nat)(h:i<5):lsig (2*i+1)=some (.build 254 (lps i),some (2+i),true,[]):=by
 match i,h with
 | 0,_=>exact lsB0
 | 1,_=>exact lsB1
 | 2,_=>exact lsB2
 | 3,_=>exact lsB3
 | 4,_=>exact lsB4
theorem lbd(i:Nat)(h:i<5)(a:Act)(w:World):(Instr.build 254 ((lps i).map fun p=>(p.1,a.eval p.2))).run Tryz.prog w=.ok (lkey i) w:=by
 match i,h with
 | 0,_=>exact lbd0 a w
 | 1,_=>exact lbd1 a w
 | 2,_=>exact lbd2 a w
 | 3,_=>exact lbd3 a w
 | 4,_=>exact lbd4 a w
theorem A2m(i:Nat)(h:i<5):D0e Tryz.prog (Instr.checkKey false 10000 254 (lkey i))=some ():=by
 match i,h with
 | 0,_=>exact lck0
 | 1,_=>exact lck1
 | 2,_=>exact lck2
 | 3,_=>exact lck3
 | 4,_=>exact lck4
theorem A2k(i j:Nat)(hi:i<5)(hj:j<5)(h:i≠j):eqT Tryz.prog 100 254 (lkey i) (lkey j)=some false:=by
 match i,j,hi,hj,h with
 | 0,0,_,_,h=>exact absurd rfl h
 | 0,1,_,_,h=>exact D5x
 | 0,2,_,_,h=>exact D5y
 | 0,3,_,_,h=>exact D5z
 | 0,4,_,_,h=>exact E5a
 | 1,0,_,_,h=>exact E5b
 | 1,1,_,_,h=>exact absurd rfl h
 | 1,2,_,_,h=>exact E5c
 | 1,3,_,_,h=>exact E5d
 | 1,4,_,_,h=>exact E5e
 | 2,0,_,_,h=>exact E5g
 | 2,1,_,_,h=>exact E5h
 | 2,2,_,_,h=>exact absurd rfl h
 | 2,3,_,_,h=>exact E5j
 | 2,4,_,_,h=>exact E5k
 | 3,0,_,_,h=>exact E5m
 | 3,1,_,_,h=>exact E5n
 | 3,2,_,_,h=>exact E5p
 | 3,3,_,_,h=>exact absurd rfl h
 | 3,4,_,_,h=>exact E5q
 | 4,0,_,_,h=>exact E5r
 | 4,1,_,_,h=>exact E5t
 | 4,2,_,_,h=>exact E5u
 | 4,3,_,_,h=>exact E5v
 | 4,4,_,_,h=>exact absurd rfl h
theorem lsI0:lsig 2=some (.insert 251 (.tmp 1) (.tmp 2) (.const lone),none,true,[0,1]):=by kernel_rfl
theorem lsI1:lsig 4=some (.insert 251 (.tmp 1) (.tmp 3) (.const lone),none,true,[0,3]):=by kernel_rfl
theorem lsI2:lsig 6=some (.insert 251 (.tmp 1) (.tmp 4) (.const lone),none,true,[0,5]):=by kernel_rfl
theorem lsI3:lsig 8=some (.insert 251 (.tmp 1) (.tmp 5) (.const lone),none,true,[0,7]):=by kernel_rfl
theorem lsI4:lsig 10=some (.insert 251 (.tmp 1) (.tmp 6) (.const lone),none,true,[0,9]):=by kernel_rfl
theorem lsI(i:Nat)(h:i<5):lsig (2*i+2)=some (.insert 251 (.tmp 1) (.tmp (2+i)) (.const lone),none,true,[0,2*i+1]):=by
 match i,h with
 | 0,_=>exact lsI0
 | 1,_=>exact lsI1
 | 2,_=>exact lsI2
 | 3,_=>exact lsI3
 | 4,_=>exact lsI4
theorem lsM:lsig 11=some (.move (.tmp 1),some 7,true,[0,1,2,3,4,5,6,7,8,9,10]):=by kernel_rfl
theorem lsA:lsig 12=some (.assign (.tmp 7),some 0,true,[11,0,1,2,3,4,5,6,7,8,9,10,11]):=by kernel_rfl
theorem A1y{i:Nat}{op:Op}{d:Option Nat}{g:Bool}{bs:List Nat}(h:lsig i=some (op,d,g,bs)):∃o,lops[i]?=some o∧o.op=op∧o.dst=d∧o.guard.isNone=g∧E0v o=bs:=by
 unfold lsig at h
 cases ho:lops[i]? with
 | none=>rw[ho]at h;cases h
 | some o =>
  rw[ho]at h
  simp only[Option.map_some,Option.some.injEq,Prod.mk.injEq]at h
  exact ⟨o,rfl,h.1,h.2.1,h.2.2.1,h.2.2.2⟩
theorem N1h{P:Program}{kt:TypeId}{key:Value}(w:World):∀(es:List MapEntry) (i:Nat),(∀e∈es,eqT P 100 kt key e.key=some false)→(Instr.findAsking kt key es i).run P w=.ok none w
 | [],i,_=>by simp[Instr.findAsking]
 | e :: es,i,h=>by
  have hrun:(Op.equal kt key e.key).run P w=.ok false w:=Q0k 100 10000 kt key e.key false w (by omega) (h e (by simp))
  simp only[Instr.findAsking,Sem.run_bind,hrun,Result.andThen_ok,Bool.false_eq_true,if_false,N1h w es (i+1) fun x hx=>h x (by simp[hx])]
theorem J3p:∃fs,Tryz.prog.underlying 254=some (.struct fs):=⟨_,Tryz.underlying254⟩
theorem J3c{i:Nat}(hi:i<5){es:Array MapEntry}{c r:Nat}{w:World}(hr:w.heap[r]?=some (.map es c))(h:∀e∈es.toList,eqT Tryz.prog 100 254 (lkey i) e.key=some false) :
  (Instr.mapUpdate 251 (.map (some r)) (lkey i) lone).run Tryz.prog w=.ok () {w with heap:=w.heap.setIfInBounds r (.map (es.push {key:=lkey i,val:=lone,born:=c}) (c+1))}:=by
 have hg:(getObj r).run Tryz.prog w=.ok (.map es c) w:=by simp[getObj,Sem.run,hr]
 have hs:∀o,(setObj r o).run Tryz.prog w=.ok () {w with heap:=w.heap.setIfInBounds r o}:=by intro o;simp[setObj,Sem.run,hr]
 obtain ⟨fs,hst⟩:=J3p
 have hf:(Instr.findKey 254 (lkey i) es.toList).run Tryz.prog w=.ok none w:=by
  unfold Instr.findKey
  simp only[Sem.run_bind,run_underlying hst,Result.andThen_ok]
  cases hl:es.toList with
  | nil=>simp[Instr.findNow]
  | cons e es' =>
   have:Instr.findNow (.struct fs) (lkey i) (e :: es') 0=none:=by simp[Instr.findNow,Instr.sameNow]
   rw[this]
   exact N1h w _ 0 fun x hx=>h x (by rw[hl];exact hx)
 unfold Instr.mapUpdate
 have hu:Tryz.prog.underlying 251=some (.map 254 3):=by kernel_rfl
 simp only[Sem.run_bind,run_underlying hu,Result.andThen_ok,hg,A0y (A2m i hi) w,hf,hs]
structure LI(w0:World)(L:Nat→Bool)(a:Act)(w:World):Prop where
 defers:a.defers=[]
 size:a.tmps.size=8
 os:w.os=w0.os
 tape:w.tape=w0.tape
 output:w.output=w0.output
 m0:L 0=false→w.heap=w0.heap
 m1:L 0=true→a.tmps[1]?=some (.map (some w0.heap.size))∧∃es c,w.heap=w0.heap.push (.map es c)∧∀p,p∈es.toList.map kvOf↔∃i,i<5∧L (2*i+2)=true∧p=(lkey i,lone)
 bd:∀i,i<5→L (2*i+1)=true→a.tmps[2+i]?=some (lkey i)
 mv:L 11=true→a.tmps[7]?=some (.map (some w0.heap.size))
 asg:L 12=true→a.tmps[0]?=some (.map (some w0.heap.size))
 no:L 0=false→∀i,i<5→L (2*i+2)=false
def lset(L:Nat→Bool)(j:Nat):Nat→Bool:=fun i=>if i=j then true else L i
theorem E0y(L:Nat→Bool)(j:Nat):lset L j j=true:=by simp[lset]
theorem B0g(L:Nat→Bool){i j:Nat}(h:i≠j):lset L j i=L i:=by simp[lset,h]
theorem lput{a:Act}{d t:Nat}{v:Value}(h:t≠d):(a.put (some d) v).tmps[t]?=a.tmps[t]?:=by
 simp only[Act.put]
 rw[Array.getElem?_setIfInBounds_ne (Ne.symm h)]
theorem K1d{a:Act}{d:Nat}{v:Value}(h:d<a.tmps.size):(a.put (some d) v).tmps[d]?=some v:=by
 simp[Act.put,h]
theorem LI.of{a:Act}{w:World}{j:Nat}{o:Oper}(ho:lops[j]?=some o)(hg:o.guard.isNone=true){Q:Exit→Act→World→Prop}{K:Act→World→Prop}
  (hrun:(∃v w',(execOp a.eval o).run Tryz.prog w=.ok (.value v) w'∧K (a.put o.dst v) w')∨∃w',(execOp a.eval o).run Tryz.prog w=.ok .skip w'∧K (a.put o.dst undef) w'):wpOp Tryz.prog lops Q j K a w:=by
 unfold wpOp
 rw[ho]
 simp only
 rw[if_pos (by cases hgo:o.guard with | none=>simp[Region.wanted,hgo] | some x=>rw[hgo]at hg;cases hg)]
 refine .inl ?_
 unfold Oper.wp
 rcases hrun with ⟨v,w',h1,h2⟩ | ⟨w',h1,h2⟩
 ·rw[h1];exact h2
 ·rw[h1];exact h2
theorem LI.step{w0:World}{L:Nat→Bool}{a:Act}{w:World}(h:LI w0 L a w){j:Nat}(hL:L j=false){o:Oper}(ho:lops[j]?=some o)(hpre:∀k∈E0v o,L k=true)(Q:Exit→Act→World→Prop)(K:Act→World→Prop)
  (hK:∀a' w',LI w0 (lset L j) a' w'→K a' w'):wpOp Tryz.prog lops Q j K a w:=by
 have hj:j<13:=by rw[← U0y];exact (Array.getElem?_eq_some_iff.1 ho).1
 have h8:=h.size
 have hcase:j=0∨(∃i,i<5∧j=2*i+1)∨(∃i,i<5∧j=2*i+2)∨j=11∨j=12:=by
  rcases Nat.lt_or_ge j 11 with h11 | h11
  ·by_cases h2:j % 2=1
   ·exact .inr (.inl ⟨j / 2,by omega,by omega⟩)
   ·by_cases h0:j=0
    ·exact .inl h0
    ·exact .inr (.inr (.inl ⟨j / 2-1,by omega,by omega⟩))
  ·omega
 rcases hcase with rfl | ⟨i,hi,rfl⟩ | ⟨i,hi,rfl⟩ | rfl | rfl
 ·obtain ⟨o',ho',hop,hd,hg,_⟩:=A1y ls0
  rw[ho]at ho';cases ho'
  have hm:=h.m0 hL
  refine LI.of ho hg (.inl ⟨.map (some w.heap.size),w.alloc (.map #[] 0),?_,hK _ _ ?_⟩)
  ·simp only[execOp,hop,Option.map_none,Instr.makeMap,Sem.run_bind,Result.andThen_ok,run_newObj,Sem.run_pure,World.alloc_eq]
  ·rw[hd,hm]
   refine ⟨h.defers,by simp[Act.put,h.size],h.os,h.tape,h.output,fun h0=>?_,fun _=>⟨K1d (by omega),#[],0,?_,fun p=>?_⟩,fun i hi hl=>?_,fun hl=>?_,fun hl=>?_,fun h0=>?_⟩
   ·rw[E0y]at h0;cases h0
   ·show w.heap.push _=_;rw[hm]
   ·constructor
    ·intro hp;simp at hp
    ·rintro ⟨i,hi,hl,_⟩
     rw[B0g _ (by omega),h.no hL i hi]at hl;cases hl
   ·rw[lput (by omega)];exact h.bd i hi (by rw[B0g _ (by omega)]at hl;exact hl)
   ·rw[lput (by omega)];exact h.mv (by rw[B0g _ (by omega)]at hl;exact hl)
   ·rw[lput (by omega)];exact h.asg (by rw[B0g _ (by omega)]at hl;exact hl)
   ·rw[E0y]at h0;cases h0
 ·have hb:=lbd i hi
  obtain ⟨o',ho',hop,hd,hg,_⟩:=A1y (lsB i hi)
  rw[ho]at ho';cases ho'
  refine LI.of ho hg (.inl ⟨lkey i,w,?_,hK _ _ ?_⟩)
  ·simp only[execOp,hop,Sem.run_bind,hb a w,Result.andThen_ok,Sem.run_pure]
  ·rw[hd]
   refine ⟨h.defers,by simp[Act.put,h.size],h.os,h.tape,h.output,fun h0=>?_,fun h0=>?_,fun k hk hl=>?_,fun hl=>?_,fun hl=>?_,fun h0 k hk=>?_⟩
   ·exact h.m0 (by rw[B0g _ (by omega)]at h0;exact h0)
   ·obtain ⟨h1,es,c,h2,h3⟩:=h.m1 (by rw[B0g _ (by omega)]at h0;exact h0)
    refine ⟨by rw[lput (by omega)];exact h1,es,c,h2,fun p=>(h3 p).trans ⟨?_,?_⟩⟩
    ·rintro ⟨k,k1,k2,k3⟩;exact ⟨k,k1,by rw[B0g _ (by omega)];exact k2,k3⟩
    ·rintro ⟨k,k1,k2,k3⟩;exact ⟨k,k1,by rw[B0g _ (by omega)]at k2;exact k2,k3⟩
   ·by_cases e:k=i
    ·subst e;exact K1d (by omega)
    ·rw[lput (by omega)];exact h.bd k hk (by rw[B0g _ (by omega)]at hl;exact hl)
   ·rw[lput (by omega)];exact h.mv (by rw[B0g _ (by omega)]at hl;exact hl)
   ·rw[lput (by omega)];exact h.asg (by rw[B0g _ (by omega)]at hl;exact hl)
   ·rw[B0g _ (by omega)];exact h.no (by rw[B0g _ (by omega)]at h0;exact h0) k hk
 ·obtain ⟨o',ho',hop,hd,hg,hbind⟩:=A1y (lsI i hi)
  rw[ho]at ho';cases ho'
  have h0:L 0=true:=hpre 0 (by rw[hbind];simp)
  have hb:L (2*i+1)=true:=hpre _ (by rw[hbind];simp)
  obtain ⟨h1,es,c,h2,h3⟩:=h.m1 h0
  have hkey:=h.bd i hi hb
  have hr:w.heap[w0.heap.size]?=some (.map es c):=by rw[h2];simp
  have hapart:∀e∈es.toList,eqT Tryz.prog 100 254 (lkey i) e.key=some false:=by
   intro e he
   obtain ⟨k,k1,k2,k3⟩:=(h3 (kvOf e)).1 (List.mem_map.2 ⟨e,he,rfl⟩)
   have hk:e.key=lkey k:=by have :=congrArg Prod.fst k3;exact this
   rw[hk]
   refine A2k i k hi k1 fun e2=>?_
   subst e2
   rw[hL]at k2;cases k2
  have e1:a.eval (.tmp 1)=.map (some w0.heap.size):=by simp[Act.eval,h1]
  have e2:a.eval (.tmp (2+i))=lkey i:=by simp[Act.eval,hkey]
  have e3:a.eval (.const lone)=lone:=rfl
  refine LI.of ho hg (.inr ⟨_,by simp only[execOp,hop,e1,e2,e3,Sem.run_bind,J3c hi hr hapart,Result.andThen_ok,Sem.run_pure];rfl,hK _ _ ?_⟩)
  rw[hd]
  refine ⟨h.defers,h.size,h.os,h.tape,h.output,fun h0'=>?_,fun _=>⟨h1,es.push {key:=lkey i,val:=lone,born:=c},c+1,?_,fun p=>?_⟩,fun k hk hl=>?_,fun hl=>?_,fun hl=>?_,fun h0' k hk=>?_⟩
  ·rw[B0g _ (by omega),h0]at h0';cases h0'
  ·show w.heap.setIfInBounds w0.heap.size _=_
   rw[h2]
   apply Array.ext'
   simp
  ·simp only[Array.toList_push,List.map_append,List.map_cons,List.map_nil,List.mem_append,List.mem_singleton]
   rw[h3 p]
   constructor
   ·rintro (⟨k,k1,k2,k3⟩ | e)
    ·refine ⟨k,k1,?_,k3⟩
     by_cases e:k=i
     ·subst e;exact E0y _ _
     ·rw[B0g _ (by omega)];exact k2
    ·exact ⟨i,hi,E0y _ _,e⟩
   ·rintro ⟨k,k1,k2,k3⟩
    by_cases e:k=i
    ·subst e;exact .inr k3
    ·exact .inl ⟨k,k1,by rw[B0g _ (by omega)]at k2;exact k2,k3⟩
  ·exact h.bd k hk (by rw[B0g _ (by omega)]at hl;exact hl)
  ·exact h.mv (by rw[B0g _ (by omega)]at hl;exact hl)
  ·exact h.asg (by rw[B0g _ (by omega)]at hl;exact hl)
  ·rw[B0g _ (by omega),h0]at h0';cases h0'
 ·obtain ⟨o',ho',hop,hd,hg,hbind⟩:=A1y lsM
  rw[ho]at ho';cases ho'
  have h0:L 0=true:=hpre 0 (by rw[hbind];simp)
  obtain ⟨h1,es,c,h2,h3⟩:=h.m1 h0
  have e1:a.eval (.tmp 1)=.map (some w0.heap.size):=by simp[Act.eval,h1]
  refine LI.of ho hg (.inl ⟨.map (some w0.heap.size),w,by simp only[execOp,hop,e1,Sem.run_pure],hK _ _ ?_⟩)
  rw[hd]
  refine ⟨h.defers,by simp[Act.put,h.size],h.os,h.tape,h.output,fun h0'=>?_,fun _=>⟨by rw[lput (by omega)];exact h1,es,c,h2,fun p=>(h3 p).trans ⟨?_,?_⟩⟩,fun k hk hl=>?_,fun hl=>?_,fun hl=>?_,fun h0' k hk=>?_⟩
  ·rw[B0g _ (by omega),h0]at h0';cases h0'
  ·rintro ⟨k,k1,k2,k3⟩;exact ⟨k,k1,by rw[B0g _ (by omega)];exact k2,k3⟩
  ·rintro ⟨k,k1,k2,k3⟩;exact ⟨k,k1,by rw[B0g _ (by omega)]at k2;exact k2,k3⟩
  ·rw[lput (by omega)];exact h.bd k hk (by rw[B0g _ (by omega)]at hl;exact hl)
  ·exact K1d (by omega)
  ·rw[lput (by omega)];exact h.asg (by rw[B0g _ (by omega)]at hl;exact hl)
  ·rw[B0g _ (by omega),h0]at h0';cases h0'
 ·obtain ⟨o',ho',hop,hd,hg,hbind⟩:=A1y lsA
  rw[ho]at ho';cases ho'
  have h0:L 0=true:=hpre 0 (by rw[hbind];simp)
  have h11:L 11=true:=hpre 11 (by rw[hbind];simp)
  obtain ⟨h1,es,c,h2,h3⟩:=h.m1 h0
  have e1:a.eval (.tmp 7)=.map (some w0.heap.size):=by simp[Act.eval,h.mv h11]
  refine LI.of ho hg (.inl ⟨.map (some w0.heap.size),w,by simp only[execOp,hop,e1,Sem.run_pure],hK _ _ ?_⟩)
  rw[hd]
  refine ⟨h.defers,by simp[Act.put,h.size],h.os,h.tape,h.output,fun h0'=>?_,fun _=>⟨by rw[lput (by omega)];exact h1,es,c,h2,fun p=>(h3 p).trans ⟨?_,?_⟩⟩,fun k hk hl=>?_,fun hl=>?_,fun hl=>?_,fun h0' k hk=>?_⟩
  ·rw[B0g _ (by omega),h0]at h0';cases h0'
  ·rintro ⟨k,k1,k2,k3⟩;exact ⟨k,k1,by rw[B0g _ (by omega)];exact k2,k3⟩
  ·rintro ⟨k,k1,k2,k3⟩;exact ⟨k,k1,by rw[B0g _ (by omega)]at k2;exact k2,k3⟩
  ·rw[lput (by omega)];exact h.bd k hk (by rw[B0g _ (by omega)]at hl;exact hl)
  ·rw[lput (by omega)];exact h.mv (by rw[B0g _ (by omega)]at hl;exact hl)
  ·exact K1d (by omega)
  ·rw[B0g _ (by omega),h0]at h0';cases h0'
theorem Y1c(p:Nat→Prop)(h:∃i,p i):∃i,p i∧∀k,k<i→¬ p k:=by
 obtain ⟨i,hi⟩:=h
 induction i using Nat.strongRecOn with
 | ind i ih =>
  by_cases hk:∃k,k<i∧p k
  ·obtain ⟨k,h1,h2⟩:=hk
   exact ih k h1 h2
  ·exact ⟨i,hi,fun k h1 h2=>hk ⟨k,h1,h2⟩⟩
theorem C4h(i:Nat)(o:Oper)(h:lops[i]?=some o):∀k∈E0v o,k<i:=by
 have hed:W0m 0 lops.toList=true:=by kernel_rfl
 intro k hk
 have :=J0c _ 0 hed i o (by simpa using h) k hk
 omega
theorem W0q:∀(l:List Bool) (j:Nat) (h:j<l.length),l[j]=false→((l.set j true).filter (!·)).length+1=(l.filter (!·)).length
 | [],j,h,_=>by simp at h
 | b :: l,0,_,hb=>by simp at hb;subst hb;simp
 | b :: l,j+1,h,hb=>by
  have ih:=W0q l j (by simpa using h) (by simpa using hb)
  cases b<;>simp<;>omega
theorem LI.all{w0:World}(Q:Exit→Act→World→Prop)(hQ:∀L a w,LI w0 L a w→(∀i,i<13→L i=true)→Q .normal a w):∀(n:Nat) (ls:Array Bool) (a:Act) (w:World),ls.size=13→(ls.toList.filter (!·)).length=n →
  LI w0 (fun i=>ls.getD i true) a w→wpAny Tryz.prog .any lops Q n ls a w
 | 0,ls,a,w,hs,hn,h=>by
  have hall:∀i,i<13→ls.getD i true=true:=by
   intro i hi
   have hlt:i<ls.size:=by omega
   cases hv:ls.getD i true with
   | true=>rfl
   | false =>
    have hv2:ls[i]=false:=by simpa[hlt]using hv
    have:(false:Bool)∈ls.toList.filter (!·):=by
     rw[List.mem_filter]
     exact ⟨by rw[← hv2];exact Array.mem_toList_iff.2 (Array.getElem_mem hlt),rfl⟩
    rw[List.eq_nil_of_length_eq_zero hn]at this
    cases this
  refine ⟨?_,hQ _ a w h hall⟩
  cases hr:Region.ready .any lops ls with
  | nil=>rfl
  | cons j r =>
   have hj:j∈Region.ready .any lops ls:=by rw[hr];simp
   obtain ⟨h1,o,h2,_⟩:=mem_ready.1 hj
   have:j<13:=by rw[← U0y];exact (Array.getElem?_eq_some_iff.1 h2).1
   rw[hall j this]at h1;cases h1
 | n+1,ls,a,w,hs,hn,h=>by
  refine ⟨fun h0=>?_,fun j hj=>?_⟩
  ·exfalso
   -- the first that isn't listed is ready
   have hex:∃i,i<13∧ls.getD i true=false:=by
    have:∃b,b∈ls.toList.filter (!·):=List.exists_mem_of_length_pos (by omega)
    obtain ⟨b,hb⟩:=this
    rw[List.mem_filter]at hb
    obtain ⟨hb1,hb2⟩:=hb
    obtain ⟨i,hi,e⟩:=List.getElem_of_mem hb1
    have hi2:i<ls.size:=by simpa using hi
    refine ⟨i,by omega,?_⟩
    have e2:ls[i]=b:=by simpa using e
    have hbf:b=false:=by cases b<;>simp_all
    simp[hi2,e2,hbf]
   obtain ⟨i,⟨hi,hv⟩,hmin⟩:=Y1c (fun i=>i<13∧ls.getD i true=false) hex
   have ho:lops[i]?=some lops[i]:=Array.getElem?_eq_getElem (by rw[U0y];exact hi)
   have hb:=C4h i lops[i] ho
   have:i∈Region.ready .any lops ls:=by
    refine mem_ready.2 ⟨hv,_,ho,fun e he hbd=>?_⟩
    have hlt:=hb e.on (E0h.2 ⟨e,he,hbd,rfl⟩)
    cases hvv:ls.getD e.on true with
    | true =>
     have h13:e.on<ls.size:=by omega
     simpa[h13]using hvv
    | false=>exact absurd ⟨by omega,hvv⟩ (hmin e.on hlt)
   rw[h0]at this
   cases this
  ·obtain ⟨h1,o,h2,h3⟩:=mem_ready.1 hj
   have hlt:j<13:=by rw[← U0y];exact (Array.getElem?_eq_some_iff.1 h2).1
   have hjs:j<ls.size:=by omega
   have hpre:∀k∈E0v o,(fun i=>ls.getD i true) k=true:=by
    intro k hk
    obtain ⟨e,h4,h5,rfl⟩:=E0h.1 hk
    have :=h3 e h4 h5
    by_cases hks:e.on<ls.size
    ·simpa[hks]using this
    ·simp[hks]
   refine h.step h1 h2 hpre Q _ fun a' w' h'=>?_
   refine LI.all Q hQ n _ a' w' (by simpa using hs) ?_ ?_
   ·have hvj:ls[j]=false:=by simpa[hjs]using h1
    have :=W0q ls.toList j (by simpa using hjs) (by simpa using hvj)
    rw[hn]at this
    simpa[Array.setIfInBounds,hjs]using this
   ·have e:(fun i=>(ls.setIfInBounds j true).getD i true)=lset (fun i=>ls.getD i true) j:=by
     funext i
     by_cases e:i=j
     ·subst e;rw[E0y];simp[hjs]
     ·rw[B0g _ e,getD_set_ne true (Ne.symm e)]
    rw[e]
    exact h'
section
variable {P:Program} {N:Nat}
theorem D2e{ops:Array Oper}{m:Nat}(hm:ops.size=m)(hedge:∀(i:Nat) (o:Oper),ops[i]?=some o→∀k∈E0v o,k<i)(Inv:(Nat→Bool)→Act→World→Prop)(Q:Exit→Act→World→Prop)
  (step:∀(L:Nat→Bool) (j:Nat) (o:Oper) (a:Act) (w:World),L j=false→ops[j]?=some o→(∀k∈E0v o,L k=true)→Inv L a w→∀K:Act→World→Prop,(∀a' w',Inv (lset L j) a' w'→K a' w')→wpOp P ops Q j K a w)
  (hQ:∀L a w,Inv L a w→(∀i,i<m→L i=true)→Q .normal a w):∀(n:Nat) (ls:Array Bool) (a:Act) (w:World),ls.size=m→(ls.toList.filter (!·)).length=n →
  Inv (fun i=>ls.getD i true) a w→wpAny P .any ops Q n ls a w
 | 0,ls,a,w,hs,hn,h=>by
  have hall:∀i,i<m→ls.getD i true=true:=by
   intro i hi
   have hlt:i<ls.size:=by omega
   cases hv:ls.getD i true with
   | true=>rfl
   | false =>
    have hv2:ls[i]=false:=by simpa[hlt]using hv
    have:(false:Bool)∈ls.toList.filter (!·):=by
     rw[List.mem_filter]
     exact ⟨by rw[← hv2];exact Array.mem_toList_iff.2 (Array.getElem_mem hlt),rfl⟩
    rw[List.eq_nil_of_length_eq_zero hn]at this
    cases this
  refine ⟨?_,hQ _ a w h hall⟩
  cases hr:Region.ready .any ops ls with
  | nil=>rfl
  | cons j r =>
   have hj:j∈Region.ready .any ops ls:=by rw[hr];simp
   obtain ⟨h1,o,h2,_⟩:=mem_ready.1 hj
   have:j<m:=by rw[← hm];exact (Array.getElem?_eq_some_iff.1 h2).1
   rw[hall j this]at h1;cases h1
 | n+1,ls,a,w,hs,hn,h=>by
  refine ⟨fun h0=>?_,fun j hj=>?_⟩
  ·exfalso
   have hex:∃i,i<m∧ls.getD i true=false:=by
    have:∃b,b∈ls.toList.filter (!·):=List.exists_mem_of_length_pos (by omega)
    obtain ⟨b,hb⟩:=this
    rw[List.mem_filter]at hb
    obtain ⟨hb1,hb2⟩:=hb
    obtain ⟨i,hi,e⟩:=List.getElem_of_mem hb1
    have hi2:i<ls.size:=by simpa using hi
    refine ⟨i,by omega,?_⟩
    have e2:ls[i]=b:=by simpa using e
    have hbf:b=false:=by cases b<;>simp_all
    simp[hi2,e2,hbf]
   obtain ⟨i,⟨hi,hv⟩,hmin⟩:=Y1c (fun i=>i<m∧ls.getD i true=false) hex
   have ho:ops[i]?=some ops[i]:=Array.getElem?_eq_getElem (by rw[hm];exact hi)
   have hb:=hedge i ops[i] ho
   have:i∈Region.ready .any ops ls:=by
    refine mem_ready.2 ⟨hv,_,ho,fun e he hbd=>?_⟩
    have hlt:=hb e.on (E0h.2 ⟨e,he,hbd,rfl⟩)
    cases hvv:ls.getD e.on true with
    | true =>
     have h13:e.on<ls.size:=by omega
     simpa[h13]using hvv
    | false=>exact absurd ⟨by omega,hvv⟩ (hmin e.on hlt)
   rw[h0]at this
   cases this
  ·obtain ⟨h1,o,h2,h3⟩:=mem_ready.1 hj
   have hlt:j<m:=by rw[← hm];exact (Array.getElem?_eq_some_iff.1 h2).1
   have hjs:j<ls.size:=by omega
   have hpre:∀k∈E0v o,(fun i=>ls.getD i true) k=true:=by
    intro k hk
    obtain ⟨e,h4,h5,rfl⟩:=E0h.1 hk
    have :=h3 e h4 h5
    by_cases hks:e.on<ls.size
    ·simpa[hks]using this
    ·simp[hks]
   refine step _ j o a w h1 h2 hpre h _ fun a' w' h'=>?_
   refine D2e hm hedge Inv Q step hQ n _ a' w' (by simpa using hs) ?_ ?_
   ·have hvj:ls[j]=false:=by simpa[hjs]using h1
    have :=W0q ls.toList j (by simpa using hjs) (by simpa using hvj)
    rw[hn]at this
    simpa[Array.setIfInBounds,hjs]using this
   ·have e:(fun i=>(ls.setIfInBounds j true).getD i true)=lset (fun i=>ls.getD i true) j:=by
     funext i
     by_cases e:i=j
     ·subst e;rw[E0y];simp[hjs]
     ·rw[B0g _ e,getD_set_ne true (Ne.symm e)]
    rw[e]
    exact h'
def D4w(s:St):St:=⟨s.tmps,s.heap,s.lo,s.hi,s.step,[]⟩
abbrev opGo(P:Program)(E:Env)(N:Nat)(ops:Array Oper)(o:Oper)(s:St):Option St:=B0j P (B0v P E 4 St) (B0p E.gam) N ops [o] s [] fun s' _=>some (D4w s')
theorem L0a{E:Env}(hG:GamOk P E.gam){ops:Array Oper}{j:Nat}{o:Oper}(ho:ops[j]?=some o){s s1:St}(h:opGo P E N ops o s=some s1)(hle:s1.lo≤s.hi∨s1.lo=s.lo){w0:World}{own:Nat→Prop}{σ0:Nat→Option Nat}{lo0 hi0:Nat}{a:Act}{w:World}
  (hst:A0j N w0 own σ0 lo0 hi0 s a w) (Q:Exit→Act→World→Prop) (K:Act→World→Prop) (hK:∀a' w',A0j N w0 own σ0 lo0 hi0 s1 a' w'→K a' w'):wpOp P ops Q j K a w:=by
 obtain ⟨items,s',h1,h2,h3,h4,h5,h6,_,_⟩:=J0j (B0b hG 4 St) [o] j s [] h (fun k o' hk=>by
  cases k with
  | zero=>simp at hk;subst hk;exact ho
  | succ k=>simp at hk)
 simp only[Option.some.injEq]at h1
 subst h1
 cases items with
 | nil=>simp at h3
 | cons it r =>
  cases r with
  | cons x y=>simp at h3
  | nil =>
   have hi:it.i=j:=by have :=h4 0 it rfl;omega
   obtain ⟨k1,k2,k3⟩:=h5
   simp only[U0g]at k3
   obtain ⟨σ,u,hf,hs,hn,hle0,hout,hlo,hhi⟩:=hst
   obtain ⟨u',hc,hs'⟩:=h2 u hs
   simp only[E0c]at hc
   obtain ⟨c1,c2,c3⟩:=hc
   subst c3
   rw[← hi]
   have hlo':s'.lo≤s.hi∨s'.lo=s.lo:=hle
   refine c2 Q w0 own σ u a w hf c1 (fun b hb1 hb2=>hn b (by omega) (by omega)) K fun σ' a' w' q1 q2 q3=>hK a' w' ⟨σ',_,q3,hs',fun b hb1 hb2=>?_,hle0.trans q1,fun b hb hb'=>?_,?_,?_⟩
   ·have hb1:s'.lo≤b:=hb1
    have hb2:b<s'.hi:=hb2
    rw[h6]at hb2
    exact q2 b (hn b (by omega) hb2) (.inr (by omega))
   ·refine q2 b (hout b hb hb') ?_
    omega
   ·show lo0≤s'.lo
    omega
   ·show s'.hi≤hi0
    omega
theorem A0j.retell{w0:World}{own:Nat→Prop}{σ0:Nat→Option Nat}{lo0 hi0:Nat}{s s1:St}{a:Act}{w:World}(h:A0j N w0 own σ0 lo0 hi0 s a w)(m:Nat){ob ob1:Obj}(hm:hget s.heap m=some (.obj ob))(hd:∀o,Den ob o→Den ob1 o)
  (ht:s1.tmps=s.tmps) (hh:∀b c,hget s1.heap b=some c→(b=m∧c=.obj ob1)∨hget s.heap b=some c) (hlo:s1.lo=s.lo) (hhi:s1.hi=s.hi):A0j N w0 own σ0 lo0 hi0 s1 a w:=by
 obtain ⟨σ,u,hf,hs,hn,hle0,hout,h1,h2⟩:=h
 have hw:=hf.sub hs
 refine ⟨σ,s1.u,?_,Sub.refl _,by rw[hlo,hhi];exact hn,hle0,hout,by rw[hlo];exact h1,by rw[hhi];exact h2⟩
 have hum:s.u (.blk m)=some (.obj ob):=hm
 have hcase:∀b c,s1.u (.blk b)=some c→(b=m∧c=.obj ob1)∨s.u (.blk b)=some c:=fun b c hb=>hh b c hb
 have htmp:∀t,s1.u (.tmp t)=s.u (.tmp t):=fun t=>by show (s1.tmps[t]?).map _=(s.tmps[t]?).map _;rw[ht]
 refine {hw with tmp:=fun t v k=>hw.tmp t v (by rw[← htmp];exact k),row:=fun b e cs k=>?_,obj:=fun b o k=>?_,ownsR:=fun b e cs r k hr=>?_,ownsO:=fun b o r k hr=>?_}
 ·rcases hcase _ _ k with ⟨_,k2⟩ | k2
  ·cases k2
  ·exact hw.row b e cs k2
 ·rcases hcase _ _ k with ⟨rfl,k2⟩ | k2
  ·cases k2
   obtain ⟨r,o',p1,p2,p3⟩:=hw.obj b ob hum
   exact ⟨r,o',p1,p2,hd o' p3⟩
  ·exact hw.obj b o k2
 ·rcases hcase _ _ k with ⟨_,k2⟩ | k2
  ·cases k2
  ·exact hw.ownsR b e cs r k2 hr
 ·rcases hcase _ _ k with ⟨rfl,k2⟩ | k2
  ·exact hw.ownsO b ob r hum hr
  ·exact hw.ownsO b o r k2 hr
end
end Go.Ab
namespace Go.Ab
theorem pull{ω:Type}[Cod ω]{c:Bool}{x y:ω}{e:TypeId}{b:Bool}:(bif c then some (AV.val (Cod.enc x),row e b) else some (AV.val (Cod.enc y),row e b))=some (AV.val (Cod.enc (bif c then x else y)),row e b):=by cases c<;>rfl
def V3.zero:V3:=⟨0,0,0⟩
def say(b:Bool):Option (AV×List Con):=some (.val (.bool b),[])
def P0e(b:Bool)(g:Bool→Int×Bool)(h:Bool→Int×Bool)(k:Bool→Int×Bool):V3×Bool :=
 (⟨(g b).1,(h (g b).2).1,(k (h (g b).2).2).1⟩,(k (h (g b).2).2).2)
def P0d(r:V3×Bool):V3×Bool:=(bif r.2 then V3.zero else r.1,r.2)
def vop(g:Bool→Int→Int→Int×Bool)(b:Bool)(p:V3×V3×Unit):V3×Bool :=
 P0d (P0e b (fun b=>g b p.1.x p.2.1.x) (fun b=>g b p.1.y p.2.1.y) (fun b=>g b p.1.z p.2.1.z))
def num(x:Int):Bool:=decide (x≤4611686018427387904)&&decide (-4611686018427387904≤x)
theorem B3a(z:Int):IntKind.i64.wrap z=(z+9223372036854775808) % 18446744073709551616-9223372036854775808:=by
 have:IntKind.i64.wrap z=if z % 18446744073709551616≥9223372036854775808 then z % 18446744073709551616-18446744073709551616 else z % 18446744073709551616:=by
  simp[IntKind.wrap,IntKind.bits,IntKind.signed]
 rw[this]
 split<;>omega
theorem R0b(z:Int):IntKind.u64.wrap z=z % 18446744073709551616:=by
 simp[IntKind.wrap,IntKind.bits,IntKind.signed]
theorem A0q{z:Int}(h1:-9223372036854775808≤z)(h2:z<9223372036854775808):IntKind.i64.wrap z=z:=by rw[B3a];omega
theorem A0r{z:Int}(h1:0≤z)(h2:z<18446744073709551616):IntKind.u64.wrap z=z:=by rw[R0b];omega
def fadd(b:Bool)(x y:Int):Int×Bool:=bif !b&&(num x&&(num y&&num (x+y))) then (x+y,false) else (0,true)
def fsub(b:Bool)(x y:Int):Int×Bool:=bif !b&&(num x&&(num y&&num (x-y))) then (x-y,false) else (0,true)
theorem G0e{x:Int}:num x=true↔-4611686018427387904≤x∧x≤4611686018427387904:=by simp[num];omega
theorem W1m(x:Int):x.tdiv 2=if 0≤x then x / 2 else -((-x) / 2):=by
 have h2:Int.sign 2=1:=rfl
 rw[Int.tdiv_eq_ediv,h2]
 split<;>split<;>omega
theorem A3r(x:Int):x.tmod 2=if 0≤x then x % 2 else -((-x) % 2):=by
 have h:=Int.tmod_add_mul_tdiv x 2
 rw[W1m]at h
 split at h<;>split<;>omega
theorem V2z{x y:Int}(hx1:-4611686018427387904≤x)(hx2:x≤4611686018427387904)(hy1:-4611686018427387904≤y)(hy2:y≤4611686018427387904) :
  IntKind.i64.wrap (IntKind.i64.wrap (IntKind.i64.wrap (x.tdiv 2)+IntKind.i64.wrap (y.tdiv 2))+IntKind.i64.wrap ((IntKind.i64.wrap (x.tmod 2+y.tmod 2)).tdiv 2))=x.tdiv 2+y.tdiv 2+(x.tmod 2+y.tmod 2).tdiv 2:=by
 have b1:=W1m x
 have b2:=W1m y
 have b3:=A3r x
 have b4:=A3r y
 have a1:-2305843009213693952≤x.tdiv 2∧x.tdiv 2≤2305843009213693952:=by constructor<;>omega
 have a2:-2305843009213693952≤y.tdiv 2∧y.tdiv 2≤2305843009213693952:=by constructor<;>omega
 have a3:-1≤x.tmod 2∧x.tmod 2≤1:=by constructor<;>omega
 have a4:-1≤y.tmod 2∧y.tmod 2≤1:=by constructor<;>omega
 have b5:=W1m (x.tmod 2+y.tmod 2)
 rw[A0q (z:=x.tdiv 2) (by omega) (by omega),A0q (z:=y.tdiv 2) (by omega) (by omega),A0q (z:=x.tmod 2+y.tmod 2) (by omega) (by omega),
  A0q (z:=(x.tmod 2+y.tmod 2).tdiv 2) (by omega) (by omega),A0q (z:=x.tdiv 2+y.tdiv 2) (by omega) (by omega),A0q (by omega) (by omega)]
def dpre:List Int→Bool
 | [y1,y0,u,q,r]=>decide (2147483648≤y1∧y1<4294967296∧0≤y0∧y0<4294967296∧0≤u∧u<4294967296∧0≤q∧q<18446744073709551616∧0≤r∧r<4294967296∧q*y1+r<y1*4294967296+y0∧u+r*4294967296<q*y0+y1*4294967296+y0)
 | _=>false
def W0j(y1 y0 u U:Int):Int:=(U*4294967296+u) / (y1*4294967296+y0)
def E1p(Q R:Int→Int→Int→Int→Int→Int):List Int→List Int
 | [y1,y0,u,q,r]=>[y1,y0,u,Q y1 y0 u q r,R y1 y0 u q r]
 | l=>l
def P0v:List Int→List Int:=E1p (fun y1 y0 u q r=>W0j y1 y0 u (q*y1+r)) (fun y1 y0 u q r=>q*y1+r-W0j y1 y0 u (q*y1+r)*y1)
theorem Y1b{y1 y0 u U q:Int}(hy:0<y1*4294967296+y0):q≤W0j y1 y0 u U↔q*y1*4294967296+q*y0≤U*4294967296+u:=by
 unfold W0j
 rw[Int.le_ediv_iff_mul_le hy,Int.mul_add,← Int.mul_assoc]
theorem X1h{y1 y0 u U q:Int}(hy:0<y1*4294967296+y0)(h1:q*y1*4294967296+q*y0≤U*4294967296+u)(h2:U*4294967296+u<q*y1*4294967296+q*y0+y1*4294967296+y0):W0j y1 y0 u U=q:=by
 have a:=(Y1b (q:=q) (u:=u) (U:=U) hy).2 h1
 have b:¬ (q+1≤W0j y1 y0 u U):=by
  rw[Y1b hy,Int.add_mul,Int.add_mul,Int.add_mul]
  omega
 omega
theorem X4v{y1 y0 u q r:Int}(h:dpre [y1,y0,u,q,r]=true) :
  (q≥4294967296∨q*y0>4294967296*r+u→1≤q∧(r+y1≥4294967296→P0v [y1,y0,u,q,r]=[y1,y0,u,q-1,r+y1])∧(r+y1<4294967296→dpre [y1,y0,u,q-1,r+y1]=true∧P0v [y1,y0,u,q-1,r+y1]=P0v [y1,y0,u,q,r])) ∧
  (q<4294967296→q*y0≤4294967296*r+u→P0v [y1,y0,u,q,r]=[y1,y0,u,q,r]):=by
 simp only[dpre,decide_eq_true_eq]at h
 obtain ⟨a1,a2,a3,a4,a5,a6,a7,a8,a9,a10,a11,a12⟩:=h
 have hy:0<y1*4294967296+y0:=by omega
 have e1:(q-1)*y1=q*y1-y1:=by rw[Int.sub_mul,Int.one_mul]
 have e2:(q-1)*y0=q*y0-y0:=by rw[Int.sub_mul,Int.one_mul]
 refine ⟨fun hc=>?_,fun hq hc=>?_⟩
 ·have hq1:1≤q:=by
   rcases hc with hc | hc
   ·omega
   ·rcases Int.lt_or_le 0 q with h | h
    ·omega
    ·have:q=0:=by omega
     subst this
     omega
  -- the guess is too great
  have hgt:4294967296*r+u<q*y0:=by
   rcases hc with hc | hc
   ·have b1:4294967296*y1≤q*y1:=Int.mul_le_mul_of_nonneg_right hc (by omega)
    have b2:4294967296*y0≤q*y0:=Int.mul_le_mul_of_nonneg_right hc (by omega)
    omega
   ·omega
  refine ⟨hq1,fun hr=>?_,fun hr=>⟨?_,?_⟩⟩
  ·-- it ends
   have hlt:(q-1)*y1<4294967296*y1:=by rw[e1];omega
   have hq:q-1<4294967296:=Int.lt_of_mul_lt_mul_right hlt (by omega)
   have b:(q-1)*y0≤4294967296*4294967296:=Int.le_trans (Int.mul_le_mul_of_nonneg_right (by omega) a3) (Int.mul_le_mul_of_nonneg_left (by omega) (by omega))
   have hd:W0j y1 y0 u (q*y1+r)=q-1:=by
    refine X1h hy ?_ ?_<;>rw[e1,e2]<;>omega
   simp only[P0v,E1p,hd,e1]
   rw[show q*y1+r-(q*y1-y1)=r+y1 by omega]
  ·simp only[dpre,decide_eq_true_eq,e1,e2]
   omega
  ·simp only[P0v,E1p,e1]
   rw[show q*y1-y1+(r+y1)=q*y1+r by omega]
 ·have hd:W0j y1 y0 u (q*y1+r)=q:=X1h hy (by omega) (by omega)
  simp only[P0v,E1p,hd]
  rw[show q*y1+r-q*y1=r by omega]
end Go.Ab
namespace Go.Ab
open Go Go.Proofs
def K0k(f:Func)(id:Nat):Code:=(((C0n (f.body.getD .skip)).find? (fun p=>Nat.beq p.1 id)).getD (0,.skip)).2
def J0u:Code→Code | .loop c=>c | c=>c
def d64a:J0m:=[(9,.int .u64),(10,.int .u64),(13,.int .u64),(15,.int .u64),(16,.int .u64)]
def d64b:J0m:=[(9,.int .u64),(10,.int .u64),(14,.int .u64),(18,.int .u64),(16,.int .u64)]
def V2a(N id:Nat)(sl:J0m)(G:List Nat)(y1 y0 u q r:Int)(x:Nat→AV)(heap:Hp)(lo hi step:Nat):Option (Ex×St) :=
 bif decide (q≥4294967296) then
  bif decide (IntKind.u64.wrap (r+y1)≥4294967296) then some (.exit id,lpSt N sl G [y1,y0,u,IntKind.u64.wrap (q-1),IntKind.u64.wrap (r+y1)] x heap lo hi step)
  else some (.normal,lpSt N sl G [y1,y0,u,IntKind.u64.wrap (q-1),IntKind.u64.wrap (r+y1)] x heap lo hi step)
 else bif decide (IntKind.u64.wrap (q*y0)>IntKind.u64.wrap (IntKind.u64.wrap (4294967296*r)+u)) then
  bif decide (IntKind.u64.wrap (r+y1)≥4294967296) then some (.exit id,lpSt N sl G [y1,y0,u,IntKind.u64.wrap (q-1),IntKind.u64.wrap (r+y1)] x heap lo hi step)
  else some (.normal,lpSt N sl G [y1,y0,u,IntKind.u64.wrap (q-1),IntKind.u64.wrap (r+y1)] x heap lo hi step)
 else some (.exit id,lpSt N sl G [y1,y0,u,q,r] x heap lo hi step)
theorem N4p(y1 y0 u q r:Int)(x:Nat→AV)(heap:Hp)(lo hi step:Nat) :
  run Tryz.prog (B0v Tryz.prog {gam:=[]} 1) 135 {} [] 50 (Ex×St) (J0u (K0k Tryz.f205 0)) (lpSt 135 d64a (nums 67 19) [y1,y0,u,q,r] x heap lo hi step) (fun e s'=>some (e,G0c (nums 67 19) s')) =
   V2a 135 0 d64a (nums 67 19) y1 y0 u q r x heap lo hi step:=by kernel_rfl
theorem N4q(y1 y0 u q r:Int)(x:Nat→AV)(heap:Hp)(lo hi step:Nat) :
  run Tryz.prog (B0v Tryz.prog {gam:=[]} 1) 135 {} [] 50 (Ex×St) (J0u (K0k Tryz.f205 2)) (lpSt 135 d64b (nums 102 19) [y1,y0,u,q,r] x heap lo hi step) (fun e s'=>some (e,G0c (nums 102 19) s')) =
   V2a 135 2 d64b (nums 102 19) y1 y0 u q r x heap lo hi step:=by kernel_rfl
theorem X1j{N id:Nat}{sl:J0m}{G:List Nat}(hsl:J0k sl=5){F:List Int→(Nat→AV)→Hp→Nat→Nat→Nat→Option (Ex×St)}
  (hF:∀y1 y0 u q r x heap lo hi step,F [y1,y0,u,q,r] x heap lo hi step=V2a N id sl G y1 y0 u q r x heap lo hi step) :
  ∀xs,xs.length=J0k sl→dpre xs=true→∀x heap lo hi step,
   (∃ys,ys.length=J0k sl∧dpre ys=true∧(ys.getD 3 0).toNat<(xs.getD 3 0).toNat∧P0v ys=P0v xs∧F xs x heap lo hi step=some (.normal,lpSt N sl G ys x heap lo hi step)) ∨
   F xs x heap lo hi step=some (.exit id,lpSt N sl G (P0v xs) x heap lo hi step):=by
 intro xs hlen hp x heap lo hi step
 rw[hsl]at hlen
 obtain ⟨y1,y0,u,q,r,rfl⟩:∃y1 y0 u q r,xs=[y1,y0,u,q,r]:=by
  match xs,hlen with
  | [a,b,c,d,e],_=>exact ⟨a,b,c,d,e,rfl⟩
 obtain ⟨hs,he⟩:=X4v hp
 have hp':=hp
 simp only[dpre,decide_eq_true_eq]at hp'
 obtain ⟨a1,a2,a3,a4,a5,a6,a7,a8,a9,a10,a11,a12⟩:=hp'
 rw[hF]
 unfold V2a
 have w1:IntKind.u64.wrap (r+y1)=r+y1:=A0r (by omega) (by omega)
 rw[w1]
 have more:(q≥4294967296∨q*y0>4294967296*r+u)→(∃ys,ys.length=J0k sl∧dpre ys=true∧(ys.getD 3 0).toNat<([y1,y0,u,q,r].getD 3 0).toNat∧P0v ys=P0v [y1,y0,u,q,r]∧(bif decide (r+y1≥4294967296) then some (Ex.exit id,lpSt N sl G [y1,y0,u,IntKind.u64.wrap (q-1),r+y1] x heap lo hi step)
  else some (.normal,lpSt N sl G [y1,y0,u,IntKind.u64.wrap (q-1),r+y1] x heap lo hi step))=some (.normal,lpSt N sl G ys x heap lo hi step))∨(bif decide (r+y1≥4294967296) then some (Ex.exit id,lpSt N sl G [y1,y0,u,IntKind.u64.wrap (q-1),r+y1] x heap lo hi step)
  else some (.normal,lpSt N sl G [y1,y0,u,IntKind.u64.wrap (q-1),r+y1] x heap lo hi step))=some (.exit id,lpSt N sl G (P0v [y1,y0,u,q,r]) x heap lo hi step):=by
  intro hc
  obtain ⟨h1,h2,h3⟩:=hs hc
  rw[A0r (z:=q-1) (by omega) (by omega)]
  by_cases hr:r+y1≥4294967296
  ·refine .inr ?_
   simp only[hr,decide_true,cond_true]
   rw[h2 hr]
  ·refine .inl ⟨[y1,y0,u,q-1,r+y1],by rw[hsl];rfl,(h3 (by omega)).1,?_,(h3 (by omega)).2,?_⟩
   ·simp only[List.getD_cons_succ,List.getD_cons_zero];omega
   ·simp only[hr,decide_false,cond_false]
 by_cases hq:q≥4294967296
 ·simp only[hq,decide_true,cond_true]
  exact more (.inl hq)
 ·simp only[hq,decide_false,cond_false]
  have b1:q*y0≤4294967295*4294967295:=Int.le_trans (Int.mul_le_mul_of_nonneg_right (by omega) a3) (Int.mul_le_mul_of_nonneg_left (by omega) (by omega))
  have b0:0≤q*y0:=Int.mul_nonneg a7 a3
  rw[A0r (z:=q*y0) b0 (by omega),A0r (z:=4294967296*r) (by omega) (by omega),A0r (z:=4294967296*r+u) (by omega) (by omega)]
  by_cases hc:q*y0>4294967296*r+u
  ·simp only[hc,decide_true,cond_true]
   exact more (.inr hc)
  ·simp only[hc,decide_false,cond_false]
   refine .inr ?_
   rw[he (by omega) (by omega)]
def d64h:M0e:=[(0,Q0a 135 d64a (nums 67 19) dpre P0v),(2,Q0a 135 d64b (nums 102 19) dpre P0v)]
theorem E2c:C0n (Tryz.f205.body.getD .skip)=[(0,.loop (J0u (K0k Tryz.f205 0))),(1,K0k Tryz.f205 1),(2,.loop (J0u (K0k Tryz.f205 2))),(3,K0k Tryz.f205 3)]:=by kernel_rfl
theorem X3r:∀fn c,Tryz.prog.funcs[205]?=some fn→fn.body=some c→HFit Tryz.prog fn.ntmps d64h c:=by
 intro fn c hf hb
 rw[Tryz.func205]at hf
 cases hf
 have hn:Tryz.f205.ntmps=135:=by kernel_rfl
 have hc:Tryz.f205.body.getD .skip=c:=by rw[hb];rfl
 rw[hn]
 have hL:=E2c
 rw[hc]at hL
 have hcall:∀β,D0t Tryz.prog (B0v Tryz.prog {gam:=[]} 1 β):=B0b GamOk.nil 1
 refine HFit.of fun p hp h hh s s' hs=>?_
 rw[hL]at hp
 simp only[List.mem_cons,List.not_mem_nil,or_false]at hp
 rcases hp with rfl | rfl | rfl | rfl
 ·have:h=Q0a 135 d64a (nums 67 19) dpre P0v:=(Option.some.inj hh).symm
  subst this
  exact J3n hcall (F:=50) (wy:={}) (fun xs=>(xs.getD 3 0).toNat) (X1j rfl (F:=fun xs x heap lo hi step=>run Tryz.prog (B0v Tryz.prog {gam:=[]} 1) 135 {} [] 50 (Ex×St) (J0u (K0k Tryz.f205 0)) (lpSt 135 d64a (nums 67 19) xs x heap lo hi step) (fun e s'=>some (e,G0c (nums 67 19) s'))) N4p) s s' hs
 ·simp[W0r,d64h]at hh
 ·have:h=Q0a 135 d64b (nums 102 19) dpre P0v:=(Option.some.inj hh).symm
  subst this
  exact J3n hcall (F:=50) (wy:={}) (fun xs=>(xs.getD 3 0).toNat) (X1j rfl (F:=fun xs x heap lo hi step=>run Tryz.prog (B0v Tryz.prog {gam:=[]} 1) 135 {} [] 50 (Ex×St) (J0u (K0k Tryz.f205 2)) (lpSt 135 d64b (nums 102 19) xs x heap lo hi step) (fun e s'=>some (e,G0c (nums 102 19) s'))) N4q) s s' hs
 ·simp[W0r,d64h]at hh
def shI(a s:Int):Int:=IntKind.u64.wrap (a*2^min s.toNat IntKind.u64.bits)
def srI(a s:Int):Int:=a.fdiv (2^min s.toNat IntKind.u64.bits)
def orI(a b:Int):Int:=IntKind.u64.wrap (((BitVec.ofInt IntKind.u64.bits a ||| BitVec.ofInt IntKind.u64.bits b).toNat:Nat):Int)
def andI(a b:Int):Int:=IntKind.u64.wrap (((BitVec.ofInt IntKind.u64.bits a &&& BitVec.ofInt IntKind.u64.bits b).toNat:Nat):Int)
def guess(U y1:Int):Int:=IntKind.u64.wrap (U.tdiv y1)
def rest(U y1:Int):Int:=IntKind.u64.wrap (U-IntKind.u64.wrap (guess U y1*y1))
def low(U u q y:Int):Int:=IntKind.u64.wrap (IntKind.u64.wrap (IntKind.u64.wrap (U*4294967296)+u)-IntKind.u64.wrap (q*y))
def T1j(p:List Int→Bool)(Q:Int→Int→Int→Int→Int→Int)(s y' y1 y0 un32 un1 un0:Int):Option (AV×List Con) :=
 bif y1==0 then none else
 bif p [y1,y0,un1,guess un32 y1,rest un32 y1]then
  bif y1==0 then none else
  bif p [y1,y0,un0,guess (low un32 un1 (Q y1 y0 un1 (guess un32 y1) (rest un32 y1)) y') y1,rest (low un32 un1 (Q y1 y0 un1 (guess un32 y1) (rest un32 y1)) y') y1]then
   bif decide (s<0) then none else
    some (.val (.tuple #[.int .u64 (IntKind.u64.wrap (IntKind.u64.wrap (Q y1 y0 un1 (guess un32 y1) (rest un32 y1)*4294967296) +
      Q y1 y0 un0 (guess (low un32 un1 (Q y1 y0 un1 (guess un32 y1) (rest un32 y1)) y') y1) (rest (low un32 un1 (Q y1 y0 un1 (guess un32 y1) (rest un32 y1)) y') y1))),
     .int .u64 (srI (low (low un32 un1 (Q y1 y0 un1 (guess un32 y1) (rest un32 y1)) y') un0
      (Q y1 y0 un0 (guess (low un32 un1 (Q y1 y0 un1 (guess un32 y1) (rest un32 y1)) y') y1) (rest (low un32 un1 (Q y1 y0 un1 (guess un32 y1) (rest un32 y1)) y') y1)) y') s)]),[])
  else none
 else none
theorem E3x(pz:Int→Bool)(lz:Int→Int)(p:List Int→Bool)(Q R:Int→Int→Int→Int→Int→Int)(h l y:Int) :
  fnSum Tryz.prog {gam:=[(239,S0c (fun (a:U6×Unit)=>pz a.1.n) fun a=>lz a.1.n)]} [(0,Q0a 135 d64a (nums 67 19) p (E1p Q R)),(2,Q0a 135 d64b (nums 102 19) p (E1p Q R))] 20 205 [.val (.int .u64 h),.val (.int .u64 l),.val (.int .u64 y)] [] =
   bif y==0 then none else bif decide (y≤h) then none else
    bif h==0 then bif y==0 then none else bif y==0 then none else some (.val (.tuple #[.int .u64 (IntKind.u64.wrap (l.tdiv y)),.int .u64 (l.tmod y)]),[])
    else bif pz y then bif decide (IntKind.u64.wrap (lz y)<0) then none else bif decide (IntKind.u64.wrap (lz y)<0) then none else bif decide (IntKind.u64.wrap (64-IntKind.u64.wrap (lz y))<0) then none else bif decide (IntKind.u64.wrap (lz y)<0) then none else
     T1j p Q (IntKind.u64.wrap (lz y)) (shI y (IntKind.u64.wrap (lz y))) (srI (shI y (IntKind.u64.wrap (lz y))) 32) (andI (shI y (IntKind.u64.wrap (lz y))) 4294967295)
      (orI (shI h (IntKind.u64.wrap (lz y))) (srI l (IntKind.u64.wrap (64-IntKind.u64.wrap (lz y))))) (srI (shI l (IntKind.u64.wrap (lz y))) 32) (andI (shI l (IntKind.u64.wrap (lz y))) 4294967295) else none:=by kernel_rfl
theorem C4r(U u q y:Int):low U u q y=(U*4294967296+u-q*y) % 18446744073709551616:=by
 unfold low
 simp only[R0b]
 omega
theorem V2x{U y1:Int}(hU:0≤U)(hU2:U<18446744073709551616)(hy:0<y1):guess U y1=U / y1∧rest U y1=U % y1:=by
 have h1:U.tdiv y1=U / y1:=Int.tdiv_eq_ediv_of_nonneg hU
 have h2:0≤U / y1:=Int.ediv_nonneg hU (by omega)
 have h3:U / y1≤U:=Int.ediv_le_self _ hU
 have h4:U / y1*y1≤U:=Int.ediv_mul_le U (by omega)
 have h5:0≤U / y1*y1:=Int.mul_nonneg h2 (by omega)
 have h6:U % y1=U-U / y1*y1:=by
  have :=Int.emod_add_mul_ediv U y1
  rw[Int.mul_comm]at this
  omega
 have g:guess U y1=U / y1:=by unfold guess;rw[h1,A0r h2 (by omega)]
 refine ⟨g,?_⟩
 unfold rest
 rw[g,A0r h5 (by omega),A0r (by omega) (by omega),h6]
theorem E1k{y1 y0 u U D:Int}(hD:D=y1*4294967296+y0)(a1:2147483648≤y1)(a2:y1<4294967296)(a3:0≤y0)(a4:y0<4294967296)(a5:0≤u)(a6:u<4294967296)(hU:0≤U)(hU2:U<D) :
  dpre [y1,y0,u,guess U y1,rest U y1]=true∧W0j y1 y0 u (guess U y1*y1+rest U y1)=(U*4294967296+u) / D∧low U u ((U*4294967296+u) / D) D=(U*4294967296+u) % D ∧
   0≤(U*4294967296+u) / D∧(U*4294967296+u) / D<4294967296∧0≤(U*4294967296+u) % D∧(U*4294967296+u) % D<D:=by
 obtain ⟨g1,g2⟩:=V2x (U:=U) (y1:=y1) hU (by omega) (by omega)
 have hD0:0<D:=by omega
 have e1:U / y1*y1+U % y1=U:=Int.ediv_mul_add_emod U y1
 have r0:=Int.emod_nonneg U (b:=y1) (by omega)
 have r1:=Int.emod_lt_of_pos U (b:=y1) (by omega)
 have q0:0≤U / y1:=Int.ediv_nonneg hU (by omega)
 have q1:U / y1≤U:=Int.ediv_le_self _ hU
 have c0:0≤U / y1*y0:=Int.mul_nonneg q0 a3
 have m0:=Int.emod_nonneg (U*4294967296+u) (b:=D) (by omega)
 have m1:=Int.emod_lt_of_pos (U*4294967296+u) (b:=D) hD0
 have m2:(U*4294967296+u) / D*D+(U*4294967296+u) % D=U*4294967296+u:=Int.ediv_mul_add_emod _ _
 refine ⟨?_,?_,?_,Int.ediv_nonneg (by omega) (by omega),?_,m0,m1⟩
 ·rw[g1,g2]
  simp only[dpre,decide_eq_true_eq]
  omega
 ·rw[g1,g2,e1]
  unfold W0j
  rw[← hD]
 ·rw[C4r]
  generalize (U*4294967296+u) / D*D=X at m2 ⊢
  omega
 ·exact Int.ediv_lt_of_lt_mul hD0 (by omega)
theorem C1q(a:Int)(s:Nat)(hs:s≤64):shI a s=a*2^s % 18446744073709551616:=by
 unfold shI
 rw[R0b,Int.toNat_natCast,show min s IntKind.u64.bits=s from Nat.min_eq_left hs]
theorem C1w(a:Int)(s:Nat)(hs:s≤64):srI a s=a / 2^s:=by
 unfold srI
 rw[Int.toNat_natCast,show min s IntKind.u64.bits=s from Nat.min_eq_left hs]
 exact Int.fdiv_eq_ediv_of_nonneg _ (Int.pow_nonneg (by omega))
theorem D3e(a:Int):srI a 32=a / 4294967296:=C1w a 32 (by omega)
theorem D2d(a:Int)(h0:0≤a)(h1:a<18446744073709551616):andI a 4294967295=a % 4294967296:=by
 unfold andI
 have e:(BitVec.ofInt IntKind.u64.bits a &&& BitVec.ofInt IntKind.u64.bits 4294967295).toNat=a.toNat % 4294967296:=by
  rw[BitVec.toNat_and,BitVec.toNat_ofInt,BitVec.toNat_ofInt]
  have e1:(a % ((2^IntKind.u64.bits:Nat):Int)).toNat=a.toNat:=by
   rw[show ((2^IntKind.u64.bits:Nat):Int)=18446744073709551616 by decide,Int.emod_eq_of_lt h0 h1]
  have e2:((4294967295:Int) % ((2^IntKind.u64.bits:Nat):Int)).toNat=2^32-1:=by decide
  rw[e1,e2,Nat.and_two_pow_sub_one_eq_mod]
 rw[e,A0r (by omega) (by omega)]
 omega
theorem N2v(k b:Int)(s:Nat)(hk:0≤k)(hb:0≤b)(hb2:b<2^s)(h:k*2^s+b<18446744073709551616):orI (k*2^s) b=k*2^s+b:=by
 unfold orI
 have hz:(0:Int)<2^s:=Int.pow_pos (by omega)
 have hkz:0≤k*2^s:=Int.mul_nonneg hk (by omega)
 have e:(BitVec.ofInt IntKind.u64.bits (k*2^s) ||| BitVec.ofInt IntKind.u64.bits b).toNat=(k*2^s+b).toNat:=by
  rw[BitVec.toNat_or,BitVec.toNat_ofInt,BitVec.toNat_ofInt,show ((2^IntKind.u64.bits:Nat):Int)=18446744073709551616 by decide,Int.emod_eq_of_lt hkz (by omega),Int.emod_eq_of_lt hb (by omega)]
  have hp:((2:Int)^s)=((2^s:Nat):Int):=by simp
  have e1:(k*2^s).toNat=2^s*k.toNat:=by
   rw[hp,Int.toNat_mul hk (by omega),Int.toNat_natCast,Nat.mul_comm]
  have e2:(k*2^s+b).toNat=2^s*k.toNat+b.toNat:=by
   rw[Int.toNat_add hkz hb,e1]
  rw[e1,e2,Nat.two_pow_add_eq_or_of_lt]
  have:(b.toNat:Int)<((2^s:Nat):Int):=by rw[← hp];omega
  exact Int.ofNat_lt.1 this
 rw[e,A0r (by omega) (by omega)]
 omega
theorem E3w{h l y:Int}{s:Nat}(hs:s<64)(h0:0≤h)(hy:h<y)(l0:0≤l)(l1:l<18446744073709551616)(n1:9223372036854775808≤y*2^s)(n2:y*2^s<18446744073709551616) :
  T1j dpre (fun y1 y0 u q r=>W0j y1 y0 u (q*y1+r)) s (shI y s) (srI (shI y s) 32) (andI (shI y s) 4294967295) (orI (shI h s) (srI l ((64-s:Nat):Int))) (srI (shI l s) 32) (andI (shI l s) 4294967295) =
   some (.val (.tuple #[.int .u64 ((h*18446744073709551616+l) / y),.int .u64 ((h*18446744073709551616+l) % y)]),[]):=by
 have hz:(0:Int)<2^s:=Int.pow_pos (by omega)
 have hw:(0:Int)<2^(64-s):=Int.pow_pos (by omega)
 have hzw:(2:Int)^s*2^(64-s)=18446744073709551616:=by rw[← Int.pow_add,show s+(64-s)=64 by omega];decide
 rw[C1q y s (by omega),C1q h s (by omega),C1q l s (by omega),C1w l (64-s) (by omega)]
 rw[D3e,D3e,D2d _ (Int.emod_nonneg _ (by omega)) (Int.emod_lt_of_pos _ (by omega)),D2d _ (Int.emod_nonneg _ (by omega)) (Int.emod_lt_of_pos _ (by omega))]
 have hhz:0≤h*2^s:=Int.mul_nonneg h0 (by omega)
 have hhy:h*2^s+2^s≤y*2^s:=by
  have:(h+1)*2^s≤y*2^s:=Int.mul_le_mul_of_nonneg_right (by omega) (by omega)
  rw[Int.add_mul,Int.one_mul]at this
  exact this
 have lw0:0≤l / 2^(64-s):=Int.ediv_nonneg l0 (by omega)
 have lw1:l / 2^(64-s)<2^s:=Int.ediv_lt_of_lt_mul hw (by rw[hzw];exact l1)
 rw[Int.emod_eq_of_lt (a:=y*2^s) (by omega) n2,Int.emod_eq_of_lt (a:=h*2^s) hhz (by omega),N2v h _ s h0 lw0 lw1 (by omega)]
 -- the low word
 have hl:l / 2^(64-s)*2^(64-s)+l % 2^(64-s)=l:=Int.ediv_mul_add_emod l _
 have lm0:=Int.emod_nonneg l (b:=2^(64-s)) (by omega)
 have lm1:=Int.emod_lt_of_pos l hw
 have hl2:l*2^s=l / 2^(64-s)*18446744073709551616+l % 2^(64-s)*2^s:=by
  calc l*2^s=(l / 2^(64-s)*2^(64-s)+l % 2^(64-s))*2^s:=by rw[hl]
   _=l / 2^(64-s)*18446744073709551616+l % 2^(64-s)*2^s:=by rw[Int.add_mul,Int.mul_assoc,Int.mul_comm (2^(64-s)) (2^s),hzw]
 have lz0:0≤l % 2^(64-s)*2^s:=Int.mul_nonneg lm0 (by omega)
 have lz1:l % 2^(64-s)*2^s<18446744073709551616:=by
  have:l % 2^(64-s)*2^s<2^(64-s)*2^s:=Int.mul_lt_mul_of_pos_right lm1 hz
  rw[Int.mul_comm (2^(64-s)) (2^s),hzw]at this
  exact this
 have hL:l*2^s % 18446744073709551616=l % 2^(64-s)*2^s:=by rw[hl2];omega
 rw[hL]
 generalize hD:y*2^s=D at *
 generalize hLL:l % 2^(64-s)*2^s=L at *
 generalize hU:h*2^s+l / 2^(64-s)=U at *
 have hM:U*18446744073709551616+L=(h*18446744073709551616+l)*2^s:=by
  rw[Int.add_mul,hl2,← hU,Int.add_mul,Int.mul_assoc h,Int.mul_assoc h,Int.mul_comm (2^s)]
  omega
 obtain ⟨p1,p2,p3,p4,p5,p6,p7⟩:=E1k (y1:=D / 4294967296) (y0:=D % 4294967296) (u:=L / 4294967296) (U:=U) (D:=D) (by omega) (by omega) (by omega) (by omega) (by omega) (by omega) (by omega) (by omega) (by omega)
 obtain ⟨k1,k2,k3,k4,k5,k6,k7⟩:=E1k (y1:=D / 4294967296) (y0:=D % 4294967296) (u:=L % 4294967296) (U:=(U*4294967296+L / 4294967296) % D) (D:=D) (by omega) (by omega) (by omega) (by omega) (by omega) (by omega) (by omega) p6 p7
 have y1n:(D / 4294967296==0)=false:=by simp;omega
 unfold T1j
 dsimp only
 rw[y1n,p1,p2,p3,k1,k2,k3]
 simp only[cond_false,cond_true]
 have hsn:decide ((s:Int)<0)=false:=by simp
 rw[hsn,cond_false,C1w _ s (by omega)]
 have m1:(U*4294967296+L / 4294967296) / D*D+(U*4294967296+L / 4294967296) % D=U*4294967296+L / 4294967296:=Int.ediv_mul_add_emod _ _
 have m2:((U*4294967296+L / 4294967296) % D*4294967296+L % 4294967296) / D*D+((U*4294967296+L / 4294967296) % D*4294967296+L % 4294967296) % D=(U*4294967296+L / 4294967296) % D*4294967296+L % 4294967296:=Int.ediv_mul_add_emod _ _
 generalize (U*4294967296+L / 4294967296) / D=Q1 at *
 generalize ((U*4294967296+L / 4294967296) % D*4294967296+L % 4294967296) / D=Q0 at *
 generalize ((U*4294967296+L / 4294967296) % D*4294967296+L % 4294967296) % D=R at *
 rw[A0r (z:=Q1*4294967296) (by omega) (by omega),A0r (by omega) (by omega)]
 -- the quotient and the rest
 have key:(h*18446744073709551616+l)*2^s=(Q1*4294967296+Q0)*D+R:=by
  rw[← hM,Int.add_mul,Int.mul_right_comm]
  omega
 generalize hN:h*18446744073709551616+l=N at *
 generalize hQ:Q1*4294967296+Q0=Q at *
 have key2:R=(N-Q*y)*2^s:=by
  rw[Int.sub_mul,key,Int.mul_assoc,hD];omega
 have key3:R / 2^s=N-Q*y:=by rw[key2,Int.mul_ediv_cancel _ (by omega)]
 have b0:0≤N-Q*y:=by rw[← key3];exact Int.ediv_nonneg k6 (by omega)
 have b1:N-Q*y<y:=by
  have:(N-Q*y)*2^s<y*2^s:=by rw[← key2,hD];exact k7
  exact Int.lt_of_mul_lt_mul_right this (by omega)
 have hy0:0<y:=by omega
 have hq:N / y=Q:=by
  refine Int.le_antisymm ?_ ?_
  ·refine Int.lt_add_one_iff.1 (Int.ediv_lt_of_lt_mul hy0 ?_)
   rw[Int.add_mul,Int.one_mul];omega
  ·exact (Int.le_ediv_iff_mul_le hy0).2 (by omega)
 have hr:N % y=N-Q*y:=by
  have :=Int.ediv_mul_add_emod N y
  rw[hq]at this
  omega
 rw[key3,hq,hr]
end Go.Ab
namespace Go.Proofs
open Go.Shelf
def Tryz.lays134_ren:Go.Shelf.Ren:=⟨fun | 134=>239 | 129=>251 | n=>n,fun | 53=>146 | 3=>3 | 4=>4 | 46=>175 | 5=>5 | 9=>9 | n=>n,fun | n=>n⟩
theorem Tryz.lays134:Go.Proofs.Lays.n134 Tryz.prog Tryz.lays134_ren:={
 mixed:=by kernel_rfl
 f129:=Tryz.func251.trans (congrArg some (by kernel_rfl))
 f134:=Tryz.func239.trans (congrArg some (by kernel_rfl))
 t3:=Tryz.underlying3
 a3:=Tryz.isAgg3
 z3:=Tryz.sizeOf3
 v3:=Tryz.zeroValue3
 t4:=Tryz.underlying4
 a4:=Tryz.isAgg4
 z4:=Tryz.sizeOf4
 v4:=Tryz.zeroValue4
 t5:=Tryz.underlying5
 a5:=Tryz.isAgg5
 z5:=Tryz.sizeOf5
 v5:=Tryz.zeroValue5
 t9:=Tryz.underlying9
 a9:=Tryz.isAgg9
 z9:=Tryz.sizeOf9
 v9:=Tryz.zeroValue9
 t46:=Tryz.underlying175
 a46:=Tryz.isAgg175
 z46:=Tryz.sizeOf175
 v46:=Tryz.zeroValue175
 t53:=Tryz.underlying146
 a53:=Tryz.isAgg146
 z53:=Tryz.sizeOf146
 v53:=Tryz.zeroValue146}
theorem Tryz.bits_LeadingZeros64(x:Int)(w:World)(h0:0≤x)(h1:x≤18446744073709551615) :
  Calls Tryz.prog 239 #[.int .u64 x] w fun e w'=>e=.returned (.int .i64 (64-(Lib.bitLen x.toNat:Int)))∧w'=w:=Any.bits_LeadingZeros64 Tryz.lays134 x w h0 h1
def Tryz.lays264_ren:Go.Shelf.Ren:=⟨fun | 264=>204 | n=>n,fun | 53=>146 | 46=>175 | n=>n,fun | n=>n⟩
theorem Tryz.lays264:Go.Proofs.Lays.n264 Tryz.prog Tryz.lays264_ren:={
 mixed:=by kernel_rfl
 f264:=Tryz.func204.trans (congrArg some (by kernel_rfl))
 t46:=Tryz.underlying175
 a46:=Tryz.isAgg175
 z46:=Tryz.sizeOf175
 v46:=Tryz.zeroValue175
 t53:=Tryz.underlying146
 a53:=Tryz.isAgg146
 z53:=Tryz.sizeOf146
 v53:=Tryz.zeroValue146}
open Go.RowKit Go.Lib in
theorem Tryz.bits_Mul64(x y:Nat)(hx:x<18446744073709551616)(hy:y<18446744073709551616)(w:World) :
  Calls Tryz.prog 204 #[.int .u64 x,.int .u64 y] w fun e w'=>e=.returned (.tuple #[.int .u64 ((x*y / 18446744073709551616:Nat):Int),.int .u64 ((x*y % 18446744073709551616:Nat):Int)])∧w'=w:=Any.bits_Mul64 Tryz.lays264 x y hx hy w
end Go.Proofs
namespace Go.Ab
open Go Go.Proofs
def word(x:Int):Bool:=decide (0≤x∧x<18446744073709551616)
def B0h(a:U6×U6×Unit):Bool:=word a.1.n&&word a.2.1.n
def J0g(a:U6×U6×Unit):Two U6 U6:=⟨⟨a.1.n*a.2.1.n / 18446744073709551616⟩,⟨a.1.n*a.2.1.n % 18446744073709551616⟩⟩
theorem X2m:A0h Tryz.prog 204 (S0c B0h J0g):=by
 refine M1j (fun a=>[.int .u64 a.1.n,.int .u64 a.2.1.n]) (fun a=>rfl) fun a hp w=>?_
 obtain ⟨⟨x⟩,⟨y⟩,_⟩:=a
 simp only[B0h,word,Bool.and_eq_true,decide_eq_true_eq]at hp
 have h:=Tryz.bits_Mul64 x.toNat y.toNat (by omega) (by omega) w
 have ex:((x.toNat:Nat):Int)=x:=by omega
 have ey:((y.toNat:Nat):Int)=y:=by omega
 have e1:((x.toNat*y.toNat / 18446744073709551616:Nat):Int)=x*y / 18446744073709551616:=by rw[Int.natCast_ediv,Int.natCast_mul,ex,ey];rfl
 have e2:((x.toNat*y.toNat % 18446744073709551616:Nat):Int)=x*y % 18446744073709551616:=by rw[Int.natCast_emod,Int.natCast_mul,ex,ey];rfl
 rw[e1,e2,ex,ey]at h
 exact h
def A2q(x:Int):Int:=64-(Lib.bitLen x.toNat:Int)
theorem J5m:A0h Tryz.prog 239 (S0c (fun (a:U6×Unit)=>word a.1.n) fun a=>A2q a.1.n):=by
 refine M1j (fun a=>[.int .u64 a.1.n]) (fun a=>rfl) fun a hp w=>?_
 obtain ⟨⟨x⟩,_⟩:=a
 simp only[word,decide_eq_true_eq]at hp
 exact Tryz.bits_LeadingZeros64 x w hp.1 (by omega)
def Z0x(a:U6×U6×U6×Unit):Bool:=decide (0≤a.1.n∧a.1.n<a.2.2.1.n∧0≤a.2.1.n∧a.2.1.n<18446744073709551616∧a.2.2.1.n<18446744073709551616)
def E1n(a:U6×U6×U6×Unit):Two U6 U6:=⟨⟨(a.1.n*18446744073709551616+a.2.1.n) / a.2.2.1.n⟩,⟨(a.1.n*18446744073709551616+a.2.1.n) % a.2.2.1.n⟩⟩
theorem J5k:A0h Tryz.prog 205 (S0c Z0x E1n):=by
 have hG:GamOk Tryz.prog [(239,S0c (fun (a:U6×Unit)=>word a.1.n) fun a=>A2q a.1.n)]:=.cons J5m .nil
 refine H1q (E:={gam:=[(239,S0c (fun (a:U6×Unit)=>word a.1.n) fun a=>A2q a.1.n)]}) hG (hB:=d64h) X3r 20 fun a hp=>?_
 obtain ⟨⟨h⟩,⟨l⟩,⟨y⟩,_⟩:=a
 simp only[Z0x,decide_eq_true_eq]at hp
 obtain ⟨h0,hy,l0,l1,y1⟩:=hp
 refine (E3x word A2q dpre (fun y1 y0 u q r=>W0j y1 y0 u (q*y1+r)) (fun y1 y0 u q r=>q*y1+r-W0j y1 y0 u (q*y1+r)*y1) h l y).trans ?_
 have t1:(y==0)=false:=by simp;omega
 have t2:decide (y≤h)=false:=by simp;omega
 rw[t1,t2]
 simp only[cond_false]
 by_cases hh:h=0
 ·subst hh
  simp only[BEq.rfl,cond_true]
  have e1:IntKind.u64.wrap (l.tdiv y)=(0*18446744073709551616+l) / y:=by
   have a1:=Int.ediv_le_self (a:=l) y l0
   have a2:0≤l / y:=Int.ediv_nonneg l0 (by omega)
   rw[Int.tdiv_eq_ediv_of_nonneg l0,A0r a2 (by omega)]
   congr 1
   omega
  have e2:l.tmod y=(0*18446744073709551616+l) % y:=by
   rw[Int.tmod_eq_emod_of_nonneg l0]
   congr 1
   omega
  rw[e1,e2]
  rfl
 ·have t3:(h==0)=false:=by simp;exact hh
  have t4:word y=true:=by simp only[word,decide_eq_true_eq];omega
  rw[t3,t4]
  simp only[cond_false,cond_true]
  have hyn:y.toNat≠0:=by omega
  obtain ⟨b1,b2,b3⟩:=Lib.bitLenAux_bounds 64 y.toNat (by omega) hyn
  have hb:Lib.bitLen y.toNat≤64:=Lib.bitLen_le y.toNat 64 (by omega) (by omega)
  change 1≤Lib.bitLen y.toNat at b1
  change 2^(Lib.bitLen y.toNat-1)≤y.toNat at b2
  change y.toNat<2^Lib.bitLen y.toNat at b3
  generalize hk:Lib.bitLen y.toNat=k at *
  have hs:IntKind.u64.wrap (A2q y)=((64-k:Nat):Int):=by
   unfold A2q
   rw[hk,A0r (by omega) (by omega)]
   omega
  have hs2:IntKind.u64.wrap (64-((64-k:Nat):Int))=((64-(64-k):Nat):Int):=by
   rw[A0r (by omega) (by omega)]
   omega
  rw[hs,hs2]
  have t5:decide (((64-k:Nat):Int)<0)=false:=by simp
  have t6:decide (((64-(64-k):Nat):Int)<0)=false:=by simp
  rw[t5,t6]
  simp only[cond_false]
  have hpow:∀n:Nat,((2^n:Nat):Int)=(2:Int)^n:=fun n=>by simp
  refine E3w (by omega) h0 hy l0 l1 ?_ ?_
  ·have:(2:Int)^(k-1)≤y:=by
    rw[← hpow];omega
   have h2:(2:Int)^(k-1)*2^(64-k)≤y*2^(64-k):=Int.mul_le_mul_of_nonneg_right this (Int.pow_nonneg (by omega))
   rw[← Int.pow_add,show k-1+(64-k)=63 by omega]at h2
   exact h2
  ·have:y<(2:Int)^k:=by
    rw[← hpow];omega
   have h2:y*2^(64-k)<(2:Int)^k*2^(64-k):=Int.mul_lt_mul_of_pos_right this (Int.pow_pos (by omega))
   rw[← Int.pow_add,show k+(64-k)=64 by omega]at h2
   exact h2
end Go.Ab
