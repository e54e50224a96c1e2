/- A part of the proofs: lemmas, no statement of their own; no condition. -/
import Derived.Test.YtoocjipllmkjcaaGreatGCsH
import Derived.Deep.Slices
import Derived.Test.YtoocjipllmkjcaaGreatRows
set_option linter.unusedSimpArgs false
namespace Go.Ab
open Go Go.Proofs
noncomputable def wgR:Nat→Code
 | 0=>Tryz.f3.body.getD .skip
 | k+1=>seqR (wgR k)
noncomputable def wgL(k:Nat):Code:=seqL (wgR k)
noncomputable def wgO3:Array Oper:=regO (seqL (wgL 2))
noncomputable def wgO5:Array Oper:=regO (seqL (wgR 3))
theorem wg_is:Tryz.f3.body=some (.seq (wgL 0) (.seq (wgL 1) (.seq (.seq (.region 3 wgO3 false) (seqR (wgL 2))) (.seq (.region 5 wgO5 false) .ret)))):=by kernel_rfl
theorem f4_at:Tryz.prog.funcs[3]?=some Tryz.f3:=by kernel_rfl
theorem f4_N:Tryz.f3.ntmps=10:=by kernel_rfl
theorem f14_on : (Tryz.f14.body.isSome && !Tryz.f14.name == "runtime.NumGoroutine") = true := by kernel_rfl
theorem f15_on : (Tryz.f15.body.isSome && !Tryz.f15.name == "runtime.NumGoroutine") = true := by kernel_rfl
def cLight:Call:={callee:=.value (.func 14),args:=#[.tmp 5],argTypes:=#[24]}
def cEach:Call:={callee:=.value (.func 15),args:=#[.tmp 8,.func 16],argTypes:=#[24,52]}
theorem wg3_1:sigOf wgO3 1=some (.call cLight,some 6,true):=by kernel_rfl
theorem wg3_n:List.range wgO3.size=(List.range (wgO3.toList.take 1).length).map (0+·)++(1 :: ((List.range (wgO3.toList.drop 2).length).map (2+·)++[])):=by kernel_rfl
theorem wg5_1:sigOf wgO5 1=some (.call cEach,some 9,true):=by kernel_rfl
theorem wg5_n:List.range wgO5.size=(List.range (wgO5.toList.take 1).length).map (0+·)++(1 :: ((List.range (wgO5.toList.drop 2).length).map (2+·)++[])):=by kernel_rfl
def wgGam:Gam:=[(13,S0 fun (_:Unit)=>true)]
theorem wgGam_ok:GamOk Tryz.prog wgGam:=.cons okLights .nil
def wgS(bg:Int)(a:Option Addr)(n c:Nat)(tm:List (Nat×AV)):St:=gSt 10 ([(1,.ptr 4096 0),(2,.val (.bool false))]++tm) [(4096,plRow bg a n c)] lN1
def plV(bg:Int)(a:Option Addr)(n c:Nat):Value:=.agg (List.toArray [.int .i64 bg,.slice a n c])
noncomputable abbrev wgRun(c:Code)(s:St)(ks ts:List Nat):Option (Ex×St):=gRun Tryz.prog {gam:=wgGam} 10 c s ks ts
noncomputable abbrev wgEnd(ts:List Nat):St→List Foot→Option (Bool×St):=endOps [4096] (restN 10 ts)
section
variable (bg:Int) (a:Option Addr) (n c:Nat) (t:Bool)
theorem wg_q0:wgRun (wgL 0) (startS 10 [.val (.agg #[.int .i64 bg,.slice a n c])] []) [4096] [1,2]=some (.normal,wgS bg a n c []):=by kernel_rfl
theorem wg_q1:wgRun (wgL 1) (wgS bg a n c []) [4096] [1,2]=some (.normal,wgS bg a n c []):=by kernel_rfl
theorem wg_q3:opsRun Tryz.prog (callN Tryz.prog {gam:=wgGam} 4 (Bool×St)) (isSum wgGam) 10 wgO3 (wgO3.toList.take 1) (wgS bg a n c []) [] (wgEnd [1,2,5])=some (true,wgS bg a n c [(5,.val (plV bg a n c))]):=by kernel_rfl
theorem wg_q3b:opsRun Tryz.prog (callN Tryz.prog {gam:=wgGam} 4 (Bool×St)) (isSum wgGam) 10 wgO3 (wgO3.toList.drop 2) {wgS bg a n c [(5,.val (plV bg a n c))]with tmps:=(wgS bg a n c [(5,.val (plV bg a n c))]).tmps.set 6 (.val (.bool t))} [] (wgEnd [1,2,7])=some (true,wgS bg a n c [(7,.val (.bool (!t)))]):=by kernel_rfl
theorem wg_q4:wgRun (seqR (wgL 2)) (wgS bg a n c [(7,.val (.bool t))]) [4096] [1,2]=bif t then some (.ret,{wgS bg a n c []with tmps:=(wgS bg a n c []).tmps.set 2 (.val (.bool true))}) else some (.normal,wgS bg a n c []):=by kernel_rfl
theorem wg_q5:opsRun Tryz.prog (callN Tryz.prog {gam:=wgGam} 4 (Bool×St)) (isSum wgGam) 10 wgO5 (wgO5.toList.take 1) (wgS bg a n c []) [] (wgEnd [1,2,8])=some (true,wgS bg a n c [(8,.val (plV bg a n c))]):=by kernel_rfl
theorem wg_q5b:opsRun Tryz.prog (callN Tryz.prog {gam:=wgGam} 4 (Bool×St)) (isSum wgGam) 10 wgO5 (wgO5.toList.drop 2) {wgS bg a n c [(8,.val (plV bg a n c))]with tmps:=(wgS bg a n c [(8,.val (plV bg a n c))]).tmps.set 9 (.val (.bool t))} [] (wgEnd [1,2])=some (true,{wgS bg a n c []with tmps:=(wgS bg a n c []).tmps.set 2 (.val (.bool t))}):=by kernel_rfl
theorem wg_res:resA Tryz.prog {wgS bg a n c []with tmps:=(wgS bg a n c []).tmps.set 2 (.val (.bool t))} Tryz.f3.results.toList=some [.val (.bool t)]:=by kernel_rfl
theorem wg_len5(v:Value):(wgS bg a n c [(5,.val v)]).tmps.length=10:=by kernel_rfl
theorem wg_len8(v:Value):(wgS bg a n c [(8,.val v)]).tmps.length=10:=by kernel_rfl
end
theorem sum_small:∀(rs:List Rec) (s:Int),(∀r∈rs,r.2.size≤140737488355328)→0≤s→s≤3000→lgSum s rs=true→s+((rs.map fun r=>r.2.size).sum:Nat)≤3000
 | [],s,_,_,h,_=>by simpa using h
 | r :: t,s,hz,h0,h1,h=>by
  have hr:=hz r (List.mem_cons_self ..)
  have e:wI (s+(r.2.size:Int))=s+(r.2.size:Int):=wI_id (by omega) (by omega)
  unfold lgSum at h
  rw[e]at h
  by_cases hb:s+(r.2.size:Int)>3000
  ·rw[decide_eq_true hb]at h;cases h
  ·rw[decide_eq_false hb,cond_false]at h
   have :=sum_small t _ (fun x hx=>hz x (List.mem_cons_of_mem _ hx)) (by omega) (by omega) h
   simp only[List.map_cons,List.sum_cons]
   omega
theorem modes_gam:GamOk Tryz.prog (ecGam craftPre craftV toldPre toldV modesV):=.cons okCraft (.cons okTold (.cons okModes .nil))
theorem mo_calls(bg:Int)(a:Option Addr)(c:Nat)(rs:List Rec)(w:World)(hat:RecAt w a rs.length rs)(hz:∀r∈rs,r.2.size≤140737488355328) :
  Calls Tryz.prog 3 #[.agg #[.int .i64 bg,.slice a rs.length c]] w fun e w'=>∃v,e=.returned v∧RowKit.Below w.heap.size w w'∧v=.bool true:=by
 have gr:∀{cd:Code} {s s1:St} {ks ts:List Nat} {e:Ex},wgRun cd s ks ts=some (e,s1)→RunsTo Tryz.prog 10 cd s e s1:=fun h=>gRun_runs (E:={gam:=wgGam}) wgGam_ok h
 refine calls_by (vals:=[.agg #[.int .i64 bg,.slice a rs.length c]]) (args:=[.val (.agg #[.int .i64 bg,.slice a rs.length c])]) f4_at wg_is f4_N (by show 1≤10;omega) w (by simp only[Rels,Rel];exact ⟨_,_,rfl,rfl,rfl⟩) fun act Q hst hQ=>?_
 refine wp_seq (gr (wg_q0 bg a rs.length c) _ _ _ _ _ act w hst _ fun a1 w1 h1=>?_)
 refine wp_seq (gr (wg_q1 bg a rs.length c) _ _ _ _ _ a1 w1 h1 _ fun a2 w2 h2=>?_)
 have later:∀{s:St} {ax:Act} {wx:World},StFits 10 w noOwn noName 4096 (4096+2^200) s ax wx→RecAt wx a rs.length rs:=fun h=>hat.later (by obtain ⟨_,_,hf,_⟩:=h;exact hf.grown) fun k hk=>h.far hk fun h=>h
 refine wp_seq (wp_seq (wp_region ?_))
 rw[wg3_n]
 refine ops_fit (callN_ok (E:={gam:=wgGam}) wgGam_ok 4 _) [4096] _ (wg_q3 bg a rs.length c) (fun _ _ hj=>take_at hj) h2 _ fun a3 w3 h3=>?_
 have harg:cLight.args.map a3.eval=#[plV bg a rs.length c]:=by
  have:a3.eval (.tmp 5)=plV bg a rs.length c:=h3.eval (t:=5) rfl
  simp[cLight,this]
 refine call_else wg3_1 (by omega) (wg_len5 ..) h3 rfl f14_is f14_on harg (light_calls bg a c rs w3 (later h3)) _ fun v a4 w4 own1 σ1 hX _ _ _ h4 back=>?_
 subst hX
 refine ops_fit (callN_ok (E:={gam:=wgGam}) wgGam_ok 4 _) [4096] _ (wg_q3b bg a rs.length c (lightV bg rs)) (fun _ _ hj=>drop_at hj) h4 [] fun a5 w5 h5=>?_
 have h5:=back _ _ _ h5
 have q4:=wg_q4 bg a rs.length c (!lightV bg rs)
 cases hl:lightV bg rs with
 | false =>
  rw[hl]at h5 q4
  refine gr q4 _ _ _ _ _ a5 w5 h5 _ fun a6 w6 h6=>?_
  exact hQ .ret a6 w6 _ _ _ (.inr rfl) h6 (wg_res ..) rfl rfl
 | true =>
  rw[hl]at h5 q4
  refine gr q4 _ _ _ _ _ a5 w5 h5 _ fun a6 w6 h6=>?_
  refine wp_seq (wp_region ?_)
  rw[wg5_n]
  refine ops_fit (callN_ok (E:={gam:=wgGam}) wgGam_ok 4 _) [4096] _ (wg_q5 bg a rs.length c) (fun _ _ hj=>take_at hj) h6 _ fun a7 w7 h7=>?_
  have harg:cEach.args.map a7.eval=#[plV bg a rs.length c,.func (.func 16) #[] #[]]:=by
   have h1:a7.eval (.tmp 8)=plV bg a rs.length c:=h7.eval (t:=8) rfl
   have h2:a7.eval (.func 16)=.func (.func 16) #[] #[]:=rfl
   simp[cEach,h1,h2]
  have hsum:(crf0.left.size+(rs.map fun r=>r.2.size).sum:Nat)≤1099511627776:=by
   have h1:lgSum 0 rs=true:=by
    unfold lightV at hl
    simp only[Bool.and_eq_true]at hl
    exact hl.1
   have :=sum_small rs 0 hz (by omega) (by omega) h1
   show 0+_≤_
   omega
  obtain ⟨e1,e2⟩:=each_holds (hd:=modesV) (fun c tk b _ _=>modes_step _) rs crf0 bg crf0_in hsum
  refine call_else wg5_1 (by omega) (wg_len8 ..) h7 rfl f15_is f15_on harg (each_calls modes_gam bg a c rs w7 (later h7) e1) _ fun v a8 w8 own1 σ1 hX _ _ _ h8 back=>?_
  subst hX
  rw[e2]at h8
  refine ops_fit (callN_ok (E:={gam:=wgGam}) wgGam_ok 4 _) [4096] _ (wg_q5b bg a rs.length c true) (fun _ _ hj=>drop_at hj) h8 [] fun a9 w9 h9=>?_
  have fin:Q .ret a9 w9:=hQ .ret a9 w9 _ _ _ (.inr rfl) (back _ _ _ h9) (wg_res ..) rfl rfl
  change Code.wp Tryz.prog .ret Q a9 w9
  exact wp_ret fin
end Go.Ab
namespace Go.Ab
open Go Go.Proofs Go.WideShapes
section
variable {H:Type} {enc:TypeId×Value→H} {W:World} {base:Nat} {spare:Nat→Bool} {held:Bool}
theorem u2:Tryz.prog.underlying 2=some (.int .i64):=by kernel_rfl
theorem u9:Tryz.prog.underlying 9=some .string:=by kernel_rfl
theorem k2:Tryz.prog.cellsOf 2=1:=by kernel_rfl
theorem k9:Tryz.prog.cellsOf 9=1:=by kernel_rfl
theorem k22:Tryz.prog.cellsOf 22=1:=by kernel_rfl
theorem k24:Tryz.prog.cellsOf 24=2:=by kernel_rfl
theorem k70:Tryz.prog.cellsOf 70=2:=by kernel_rfl
theorem int_open{n:Nat}{c:Value}{x:DataW H×List MemPlace}(h:DataW.trod enc Tryz.prog W base spare held n 2 [c]=some x):∃k,c=.int .i64 k∧x=(.lit (.int .i64 k),[]):=by
 cases n with
 | zero=>simp[DataW.trod]at h
 | succ n =>
  simp only[DataW.trod,u2]at h
  split at h<;>simp_all
theorem str_open{n:Nat}{c:Value}{x:DataW H×List MemPlace}(h:DataW.trod enc Tryz.prog W base spare held n 9 [c]=some x):∃s,c=.string s∧x=(.lit (.string s.data.toList),[]):=by
 cases n with
 | zero=>simp[DataW.trod]at h
 | succ n =>
  simp only[DataW.trod,u9]at h
  split at h<;>simp_all
theorem rec_open{n:Nat}{cs:List Value}{x:DataW H×List MemPlace}(h:DataW.trod enc Tryz.prog W base spare held n 70 cs=some x):∃k s,cs=[.int .i64 k,.string s]∧x=(.agg [.lit (.int .i64 k),.lit (.string s.data.toList)],[]):=by
 cases n with
 | zero=>simp[DataW.trod]at h
 | succ n =>
  simp only[DataW.trod,Tryz.underlying70,k70]at h
  split at h
  ·rename_i hl
   obtain ⟨c,d,rfl⟩:∃c d,cs=[c,d]:=by
    rcases cs with _ | ⟨c,_ | ⟨d,_ | ⟨e,r⟩⟩⟩
    ·simp at hl
    ·simp at hl
    ·exact ⟨c,d,rfl⟩
    ·simp at hl
   ·simp only[Option.map_eq_some_iff]at h
    obtain ⟨xs,hxs,rfl⟩:=h
    simp only[List.mapM_cons,List.mapM_nil,k2,k9,List.drop_zero,List.take_succ_cons,List.take_zero,List.drop_succ_cons,Option.bind_eq_bind,Option.bind_eq_some_iff,Option.pure_def,Option.some.injEq]at hxs
    obtain ⟨y,hy,z,⟨y2,hy2,z2,rfl,rfl⟩,rfl⟩:=hxs
    obtain ⟨k,rfl,rfl⟩:=int_open hy
    obtain ⟨s,rfl,rfl⟩:=str_open hy2
    exact ⟨k,s,rfl,rfl⟩
  ·cases h
theorem play_open0{n:Nat}{cs:List Value}{x:DataW H×List MemPlace}(h:DataW.trod enc Tryz.prog W base spare held n 24 cs=some x):∃bg c y n',cs=[.int .i64 bg,c]∧DataW.trod enc Tryz.prog W base spare held n' 22 [c]=some y∧x=(.agg [.lit (.int .i64 bg),y.1],y.2):=by
 cases n with
 | zero=>simp[DataW.trod]at h
 | succ n =>
  simp only[DataW.trod,Tryz.underlying24,k24]at h
  split at h
  ·rename_i hl
   obtain ⟨c,d,rfl⟩:∃c d,cs=[c,d]:=by
    rcases cs with _ | ⟨c,_ | ⟨d,_ | ⟨e,r⟩⟩⟩
    ·simp at hl
    ·simp at hl
    ·exact ⟨c,d,rfl⟩
    ·simp at hl
   ·simp only[Option.map_eq_some_iff]at h
    obtain ⟨xs,hxs,rfl⟩:=h
    simp only[List.mapM_cons,List.mapM_nil,k2,k22,List.drop_zero,List.take_succ_cons,List.take_zero,List.drop_succ_cons,Option.bind_eq_bind,Option.bind_eq_some_iff,Option.pure_def,Option.some.injEq]at hxs
    obtain ⟨y,hy,z,⟨y2,hy2,z2,rfl,rfl⟩,rfl⟩:=hxs
    obtain ⟨k,rfl,rfl⟩:=int_open hy
    exact ⟨k,d,y2,n,rfl,hy2,by simp⟩
  ·cases h
theorem okWide_agg{P:Program}{w:World}{r:Reach}{base:Nat}{t:TypeId}{v:Value}{fs:Array Field}(ht:P.underlying t=some (.struct fs))(h:Value.okWide P w r base t v):∃arr,v=.agg arr:=by
 simp only[Value.okWide,ht]at h
 obtain ⟨cs,rfl,_⟩:=h
 exact ⟨cs,rfl⟩
theorem list_of{P:Nat→Rec→Prop}:∀n:Nat,(∀i,i<n→∃r,P i r)→∃rs:List Rec,rs.length=n∧∀i (hi:i<rs.length),P i rs[i]
 | 0,_=>⟨[],rfl,fun i hi=>by simp at hi⟩
 | n+1,h=>by
  obtain ⟨rs,hl,hr⟩:=list_of n fun i hi=>h i (by omega)
  obtain ⟨r,hp⟩:=h n (by omega)
  refine ⟨rs++[r],by simp[hl],fun i hi=>?_⟩
  by_cases hlt:i<rs.length
  ·rw[List.getElem_append_left hlt]
   exact hr i hlt
  ·have e:i=n:=by simp at hi;omega
   subst e
   rw[List.getElem_append_right (by omega)]
   simpa[hl]using hp
theorem bulk_part{d:DataW H}{e n:Nat}:∀{l:List (DataW H)},d∈l→n∈d.weights Tryz.prog e→n∈DataW.weightsAll Tryz.prog e l
 | [],h,_=>by cases h
 | x :: r,h,hn=>by
  simp only[DataW.weightsAll,List.mem_append]
  cases List.mem_cons.1 h with
  | inl e=>subst e;exact .inl hn
  | inr e=>exact .inr (bulk_part e hn)
theorem bytes70:Tryz.prog.bytesOf 70=24:=by kernel_rfl
theorem cell_block{w:World}{a:Addr}{v:Value}(h:w.cell? a=some v):a.block<w.heap.size:=by
 cases hb:w.heap[a.block]? with
 | none=>simp[World.cell?,hb]at h
 | some o=>exact (Array.getElem?_eq_some_iff.1 hb).1
set_option maxRecDepth 100000 in
theorem recs_of{n':Nat}{c0:Value}{y:DataW H×List MemPlace}(h2:DataW.trod enc Tryz.prog W 0 spare held n' 22 [c0]=some y)(hk2:∀n∈y.1.weights Tryz.prog 22,n≤140737488355328) :
  ∃(a:Option Addr) (c:Nat) (rs:List Rec),c0=.slice a rs.length c∧RecAt W a rs.length rs∧∀r∈rs,r.2.size≤140737488355328:=by
 rcases DataW.trod_slice Tryz.underlying22 h2 with ⟨e,_⟩ | ⟨a,len,cap,elems,rest,n,_,e,hy,_,_,_,hlen,hel,_⟩
 ·simp only[List.cons.injEq,and_true]at e
  subst e
  exact ⟨none,0,[],rfl,⟨rfl,by show 0≤_;omega,fun i hi=>by simp at hi⟩,fun r hr=>by cases hr⟩
 ·simp only[List.cons.injEq,and_true]at e
  subst e
  rw[hy]at hk2
  simp only[DataW.weights,Tryz.underlying22,bytes70,List.mem_cons,List.mem_append]at hk2
  have hl2:=hk2 _ (.inl rfl)
  rw[List.length_map]at hl2
  obtain ⟨rs,r1,r2⟩:=list_of (P:=fun i r=>W.cells? 0 (a.add (i*2)) 2=some [.int .i64 r.1,.string r.2]∧r.2.size≤140737488355328) len fun i hi=>by
   have he:=hel i hi
   have hi2:i<elems.length:=by omega
   rw[k70,List.getElem?_eq_getElem hi2]at he
   obtain ⟨cs',c1,c2⟩:=Option.bind_eq_some_iff.1 he
   obtain ⟨k,s,rfl,hx⟩:=rec_open c2
   refine ⟨(k,s),c1,?_⟩
   have hm:(elems[i]'hi2).1∈elems.map (·.1):=List.mem_map.2 ⟨elems[i]'hi2,List.getElem_mem hi2,rfl⟩
   refine hk2 _ (.inr (.inl (bulk_part hm ?_)))
   rw[hx]
   simp only[DataW.weights,Tryz.underlying70]
   simp[DataW.weightsEach,DataW.weights]
  subst r1
  refine ⟨some a,cap,rs,rfl,⟨rfl,by omega,fun i hi=>?_⟩,fun r hr=>?_⟩
  ·obtain ⟨hc,_⟩:=r2 i hi
   obtain ⟨_,_,hat⟩:=World.cells?_some hc
   have e0:=hat 0 (by omega)
   have e1:=hat 1 (by omega)
   rw[adds]at e0 e1
   have f0:W.cell? (a.add (i*2+0))=some (.int .i64 rs[i].1):=e0
   have f1:W.cell? (a.add (i*2+1))=some (.string rs[i].2):=e1
   exact ⟨a,rfl,by have :=cell_block f0;rwa [add_block]at this,f0,f1⟩
  ·obtain ⟨i,hi,rfl⟩:=List.getElem_of_mem hr
   exact (r2 i hi).2
set_option maxRecDepth 100000 in
theorem recs_open{b0:Nat}{v0:Value}{d0:DataW H}{p0:List MemPlace}(hv:Value.okWide Tryz.prog W .any b0 22 v0)(h:DataW.Trod enc Tryz.prog W 0 spare held 22 v0 d0 p0)(hk:∀n∈d0.weights Tryz.prog 22,n≤140737488355328) :
  ∃(a:Option Addr) (c:Nat) (rs:List Rec),v0=.slice a rs.length c∧(∀x∈p0,x.block<W.heap.size)∧RecAt W a rs.length rs∧∀r∈rs,r.2.size≤140737488355328:=by
 obtain ⟨fuel,hf⟩:=h
 have hlt:=DataW.trod_lt fuel 22 _ _ hf
 have hc:v0.cells.toList=[v0]:=by
  simp only[Value.okWide,Tryz.underlying22,Cell.okWide]at hv
  cases v0<;>first | rfl | (simp[Cell.ok,Tryz.underlying22]at hv)
 rw[hc]at hf
 obtain ⟨a,c,rs,h1,h2,h3⟩:=recs_of hf hk
 exact ⟨a,c,rs,h1,hlt,h2,h3⟩
set_option maxRecDepth 100000 in
theorem play_open{b0:Nat}{v0:Value}{d0:DataW H}{p0:List MemPlace}(hv:Value.okWide Tryz.prog W .any b0 24 v0)(h:DataW.Trod enc Tryz.prog W 0 spare held 24 v0 d0 p0)(hk:∀n∈d0.weights Tryz.prog 24,n≤140737488355328) :
  ∃(bg:Int) (a:Option Addr) (c:Nat) (rs:List Rec),v0=.agg #[.int .i64 bg,.slice a rs.length c]∧(∀x∈p0,x.block<W.heap.size)∧RecAt W a rs.length rs∧∀r∈rs,r.2.size≤140737488355328:=by
 obtain ⟨fuel,hf⟩:=h
 have hlt:=DataW.trod_lt fuel 24 _ _ hf
 obtain ⟨arr,rfl⟩:=okWide_agg Tryz.underlying24 hv
 obtain ⟨bg,c0,y,n',h1,h2,h3⟩:=play_open0 hf
 have harr:arr=#[.int .i64 bg,c0]:=by
  apply Array.toList_inj.1
  simpa[Value.cells]using h1
 subst harr
 simp only[Prod.mk.injEq]at h3
 obtain ⟨rfl,_⟩:=h3
 have hk2:∀n∈y.1.weights Tryz.prog 22,n≤140737488355328:=fun n hn=>hk n (by
  simp only[DataW.weights,Tryz.underlying24]
  simp[DataW.weightsEach,DataW.weights,hn])
 obtain ⟨a,c,rs,rfl,h3,h4⟩:=recs_of h2 hk2
 exact ⟨bg,a,c,rs,rfl,hlt,h3,h4⟩
end
end Go.Ab
