/- A part of the proof of 'CraftHolds': lemmas, no statement of their own; no condition. -/
import Derived.Test.YtoocjipllmkjcaaGreatGCrW
import Derived.Deep.Slices
import Derived.Test.YtoocjipllmkjcaaGreatRows
set_option linter.unusedSimpArgs false
namespace Go.Ab
open Go Go.Proofs Go.WideShapes
section
variable {H:Type} {enc:TypeId×Value→H} {W:World} {base:Nat} {spare:Nat→Bool} {held:Bool}
theorem u2:Tryz.prog.underlying 2=some (.int .i64):=by kernel_rfl
theorem u9:Tryz.prog.underlying 9=some .string:=by kernel_rfl
theorem k2:Tryz.prog.cellsOf 2=1:=by kernel_rfl
theorem k9:Tryz.prog.cellsOf 9=1:=by kernel_rfl
theorem k22:Tryz.prog.cellsOf 22=1:=by kernel_rfl
theorem k24:Tryz.prog.cellsOf 24=2:=by kernel_rfl
theorem k70:Tryz.prog.cellsOf 70=2:=by kernel_rfl
theorem U0w{n:Nat}{c:Value}{x:DataW H×List MemPlace}(h:DataW.trod enc Tryz.prog W base spare held n 2 [c]=some x):∃k,c=.int .i64 k∧x=(.lit (.int .i64 k),[]):=by
 cases n with
 | zero=>simp[DataW.trod]at h
 | succ n =>
  simp only[DataW.trod,u2]at h
  split at h<;>simp_all
theorem L1x{n:Nat}{c:Value}{x:DataW H×List MemPlace}(h:DataW.trod enc Tryz.prog W base spare held n 9 [c]=some x):∃s,c=.string s∧x=(.lit (.string s.data.toList),[]):=by
 cases n with
 | zero=>simp[DataW.trod]at h
 | succ n =>
  simp only[DataW.trod,u9]at h
  split at h<;>simp_all
theorem L1g{n:Nat}{cs:List Value}{x:DataW H×List MemPlace}(h:DataW.trod enc Tryz.prog W base spare held n 70 cs=some x):∃k s,cs=[.int .i64 k,.string s]∧x=(.agg [.lit (.int .i64 k),.lit (.string s.data.toList)],[]):=by
 cases n with
 | zero=>simp[DataW.trod]at h
 | succ n =>
  simp only[DataW.trod,Tryz.underlying70,k70]at h
  split at h
  ·rename_i hl
   obtain ⟨c,d,rfl⟩:∃c d,cs=[c,d]:=by
    rcases cs with _ | ⟨c,_ | ⟨d,_ | ⟨e,r⟩⟩⟩
    ·simp at hl
    ·simp at hl
    ·exact ⟨c,d,rfl⟩
    ·simp at hl
   ·simp only[Option.map_eq_some_iff]at h
    obtain ⟨xs,hxs,rfl⟩:=h
    simp only[List.mapM_cons,List.mapM_nil,k2,k9,List.drop_zero,List.take_succ_cons,List.take_zero,List.drop_succ_cons,Option.bind_eq_bind,Option.bind_eq_some_iff,Option.pure_def,Option.some.injEq]at hxs
    obtain ⟨y,hy,z,⟨y2,hy2,z2,rfl,rfl⟩,rfl⟩:=hxs
    obtain ⟨k,rfl,rfl⟩:=U0w hy
    obtain ⟨s,rfl,rfl⟩:=L1x hy2
    exact ⟨k,s,rfl,rfl⟩
  ·cases h
theorem X0h{n:Nat}{cs:List Value}{x:DataW H×List MemPlace}(h:DataW.trod enc Tryz.prog W base spare held n 24 cs=some x):∃bg c y n',cs=[.int .i64 bg,c]∧DataW.trod enc Tryz.prog W base spare held n' 22 [c]=some y∧x=(.agg [.lit (.int .i64 bg),y.1],y.2):=by
 cases n with
 | zero=>simp[DataW.trod]at h
 | succ n =>
  simp only[DataW.trod,Tryz.underlying24,k24]at h
  split at h
  ·rename_i hl
   obtain ⟨c,d,rfl⟩:∃c d,cs=[c,d]:=by
    rcases cs with _ | ⟨c,_ | ⟨d,_ | ⟨e,r⟩⟩⟩
    ·simp at hl
    ·simp at hl
    ·exact ⟨c,d,rfl⟩
    ·simp at hl
   ·simp only[Option.map_eq_some_iff]at h
    obtain ⟨xs,hxs,rfl⟩:=h
    simp only[List.mapM_cons,List.mapM_nil,k2,k22,List.drop_zero,List.take_succ_cons,List.take_zero,List.drop_succ_cons,Option.bind_eq_bind,Option.bind_eq_some_iff,Option.pure_def,Option.some.injEq]at hxs
    obtain ⟨y,hy,z,⟨y2,hy2,z2,rfl,rfl⟩,rfl⟩:=hxs
    obtain ⟨k,rfl,rfl⟩:=U0w hy
    exact ⟨k,d,y2,n,rfl,hy2,by simp⟩
  ·cases h
theorem X0a{P:Program}{w:World}{r:Reach}{base:Nat}{t:TypeId}{v:Value}{fs:Array Field}(ht:P.underlying t=some (.struct fs))(h:Value.okWide P w r base t v):∃arr,v=.agg arr:=by
 simp only[Value.okWide,ht]at h
 obtain ⟨cs,rfl,_⟩:=h
 exact ⟨cs,rfl⟩
theorem A1r{P:Nat→Rec→Prop}:∀n:Nat,(∀i,i<n→∃r,P i r)→∃rs:List Rec,rs.length=n∧∀i (hi:i<rs.length),P i rs[i]
 | 0,_=>⟨[],rfl,fun i hi=>by simp at hi⟩
 | n+1,h=>by
  obtain ⟨rs,hl,hr⟩:=A1r n fun i hi=>h i (by omega)
  obtain ⟨r,hp⟩:=h n (by omega)
  refine ⟨rs++[r],by simp[hl],fun i hi=>?_⟩
  by_cases hlt:i<rs.length
  ·rw[List.getElem_append_left hlt]
   exact hr i hlt
  ·have e:i=n:=by simp at hi;omega
   subst e
   rw[List.getElem_append_right (by omega)]
   simpa[hl]using hp
theorem P0p{d:DataW H}{e n:Nat}:∀{l:List (DataW H)},d∈l→n∈d.weights Tryz.prog e→n∈DataW.weightsAll Tryz.prog e l
 | [],h,_=>by cases h
 | x :: r,h,hn=>by
  simp only[DataW.weightsAll,List.mem_append]
  cases List.mem_cons.1 h with
  | inl e=>subst e;exact .inl hn
  | inr e=>exact .inr (P0p e hn)
theorem T1c:Tryz.prog.bytesOf 70=24:=by kernel_rfl
theorem W0d{w:World}{a:Addr}{v:Value}(h:w.cell? a=some v):a.block<w.heap.size:=by
 cases hb:w.heap[a.block]? with
 | none=>simp[World.cell?,hb]at h
 | some o=>exact (Array.getElem?_eq_some_iff.1 hb).1
set_option maxRecDepth 100000 in
theorem L1h{n':Nat}{c0:Value}{y:DataW H×List MemPlace}(h2:DataW.trod enc Tryz.prog W 0 spare held n' 22 [c0]=some y)(hk2:∀n∈y.1.weights Tryz.prog 22,n≤140737488355328) :
  ∃(a:Option Addr) (c:Nat) (rs:List Rec),c0=.slice a rs.length c∧RecAt W a rs.length rs∧∀r∈rs,r.2.size≤140737488355328:=by
 rcases DataW.trod_slice Tryz.underlying22 h2 with ⟨e,_⟩ | ⟨a,len,cap,elems,rest,n,_,e,hy,_,_,_,hlen,hel,_⟩
 ·simp only[List.cons.injEq,and_true]at e
  subst e
  exact ⟨none,0,[],rfl,⟨rfl,by show 0≤_;omega,fun i hi=>by simp at hi⟩,fun r hr=>by cases hr⟩
 ·simp only[List.cons.injEq,and_true]at e
  subst e
  rw[hy]at hk2
  simp only[DataW.weights,Tryz.underlying22,T1c,List.mem_cons,List.mem_append]at hk2
  have hl2:=hk2 _ (.inl rfl)
  rw[List.length_map]at hl2
  obtain ⟨rs,r1,r2⟩:=A1r (P:=fun i r=>W.cells? 0 (a.add (i*2)) 2=some [.int .i64 r.1,.string r.2]∧r.2.size≤140737488355328) len fun i hi=>by
   have he:=hel i hi
   have hi2:i<elems.length:=by omega
   rw[k70,List.getElem?_eq_getElem hi2]at he
   obtain ⟨cs',c1,c2⟩:=Option.bind_eq_some_iff.1 he
   obtain ⟨k,s,rfl,hx⟩:=L1g c2
   refine ⟨(k,s),c1,?_⟩
   have hm:(elems[i]'hi2).1∈elems.map (·.1):=List.mem_map.2 ⟨elems[i]'hi2,List.getElem_mem hi2,rfl⟩
   refine hk2 _ (.inr (.inl (P0p hm ?_)))
   rw[hx]
   simp only[DataW.weights,Tryz.underlying70]
   simp[DataW.weightsEach,DataW.weights]
  subst r1
  refine ⟨some a,cap,rs,rfl,⟨rfl,by omega,fun i hi=>?_⟩,fun r hr=>?_⟩
  ·obtain ⟨hc,_⟩:=r2 i hi
   obtain ⟨_,_,hat⟩:=World.cells?_some hc
   have e0:=hat 0 (by omega)
   have e1:=hat 1 (by omega)
   rw[adds]at e0 e1
   have f0:W.cell? (a.add (i*2+0))=some (.int .i64 rs[i].1):=e0
   have f1:W.cell? (a.add (i*2+1))=some (.string rs[i].2):=e1
   exact ⟨a,rfl,by have :=W0d f0;rwa [U0k]at this,f0,f1⟩
  ·obtain ⟨i,hi,rfl⟩:=List.getElem_of_mem hr
   exact (r2 i hi).2
set_option maxRecDepth 100000 in
theorem recs_open{b0:Nat}{v0:Value}{d0:DataW H}{p0:List MemPlace}(hv:Value.okWide Tryz.prog W .any b0 22 v0)(h:DataW.Trod enc Tryz.prog W 0 spare held 22 v0 d0 p0)(hk:∀n∈d0.weights Tryz.prog 22,n≤140737488355328) :
  ∃(a:Option Addr) (c:Nat) (rs:List Rec),v0=.slice a rs.length c∧(∀x∈p0,x.block<W.heap.size)∧RecAt W a rs.length rs∧∀r∈rs,r.2.size≤140737488355328:=by
 obtain ⟨fuel,hf⟩:=h
 have hlt:=DataW.trod_lt fuel 22 _ _ hf
 have hc:v0.cells.toList=[v0]:=by
  simp only[Value.okWide,Tryz.underlying22,Cell.okWide]at hv
  cases v0<;>first | rfl | (simp[Cell.ok,Tryz.underlying22]at hv)
 rw[hc]at hf
 obtain ⟨a,c,rs,h1,h2,h3⟩:=L1h hf hk
 exact ⟨a,c,rs,h1,hlt,h2,h3⟩
set_option maxRecDepth 100000 in
theorem play_open{b0:Nat}{v0:Value}{d0:DataW H}{p0:List MemPlace}(hv:Value.okWide Tryz.prog W .any b0 24 v0)(h:DataW.Trod enc Tryz.prog W 0 spare held 24 v0 d0 p0)(hk:∀n∈d0.weights Tryz.prog 24,n≤140737488355328) :
  ∃(bg:Int) (a:Option Addr) (c:Nat) (rs:List Rec),v0=.agg #[.int .i64 bg,.slice a rs.length c]∧(∀x∈p0,x.block<W.heap.size)∧RecAt W a rs.length rs∧∀r∈rs,r.2.size≤140737488355328:=by
 obtain ⟨fuel,hf⟩:=h
 have hlt:=DataW.trod_lt fuel 24 _ _ hf
 obtain ⟨arr,rfl⟩:=X0a Tryz.underlying24 hv
 obtain ⟨bg,c0,y,n',h1,h2,h3⟩:=X0h hf
 have harr:arr=#[.int .i64 bg,c0]:=by
  apply Array.toList_inj.1
  simpa[Value.cells]using h1
 subst harr
 simp only[Prod.mk.injEq]at h3
 obtain ⟨rfl,_⟩:=h3
 have hk2:∀n∈y.1.weights Tryz.prog 22,n≤140737488355328:=fun n hn=>hk n (by
  simp only[DataW.weights,Tryz.underlying24]
  simp[DataW.weightsEach,DataW.weights,hn])
 obtain ⟨a,c,rs,rfl,h3,h4⟩:=L1h h2 hk2
 exact ⟨bg,a,c,rs,rfl,hlt,h3,h4⟩
end
end Go.Ab
