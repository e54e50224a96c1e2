/- A part of the proofs: lemmas, no statement of their own; no condition. -/
import Derived.Test.YtoocjipllmkjcaaGreatGCrQ
set_option linter.unusedSimpArgs false
namespace Go.Ab
open Go Go.Proofs
noncomputable def ecR:Nat→Code
 | 0=>Tryz.f15.body.getD .skip
 | k+1=>seqR (ecR k)
noncomputable def ecL(k:Nat):Code:=seqL (ecR k)
noncomputable def ecB:Code:=inB (inB (seqR (ecL 3)))
noncomputable def ecB1:Code:=inB (seqL (seqR (seqR ecB)))
noncomputable def ecT:Nat→Code
 | 0=>ecB1
 | k+1=>seqR (ecT k)
noncomputable def ecO5:Array Oper:=regO (seqL ecB1)
theorem ec_is:Tryz.f15.body=some (.seq (ecL 0) (.seq (ecL 1) (.seq (ecL 2) (.seq (.seq (seqL (ecL 3)) (.block 0 (.loop (.seq (seqL ecB) (.seq (seqL (seqR ecB)) (.seq (.block 1 (.seq (.region 5 ecO5 false) (.seq (seqL (ecT 1)) (.seq (seqL (ecT 2)) (.seq (seqL (ecT 3)) (.seq (seqL (ecT 4)) (.seq (seqL (ecT 5)) (ecT 6)))))))) (seqR (seqR (seqR ecB))))))))) (ecR 4))))):=by kernel_rfl
theorem f15_is:Tryz.prog.funcs[15]?=some Tryz.f15:=by kernel_rfl
theorem f15_N:Tryz.f15.ntmps=60:=by kernel_rfl
theorem ec5_0:sigOf ecO5 0=some (.indexAddr 22 (.tmp 16) (.tmp 18),some 20,true):=by kernel_rfl
theorem ec5_1:sigOf ecO5 1=some (.load 70 (.tmp 20),some 21,true):=by kernel_rfl
theorem ec5_n:List.range ecO5.size=0 :: 1 :: ((List.range (ecO5.toList.drop 2).length).map (2+·)++[]):=by kernel_rfl
def eN1:Nat:=4096+1*2^180
def eN2:Nat:=4096+2*2^180
def eN3:Nat:=4096+3*2^180
def eN4:Nat:=4096+4*2^180
def eN5:Nat:=4096+5*2^180
abbrev HoldA:=Crf×Crf×Tl×ByteArray×Unit
def ecGam(pre:StpA→Bool)(g:StpA→Two Crf ByteArray)(tp:ByteArray×Unit→Bool)(td:ByteArray×Unit→Two Tl Bool)(hd:HoldA→Bool):Gam:=[(25,S0w pre g),(44,S0c tp td),(16,S0 hd)]
def tlRow(t:Tl):Con:=.row 48 ([.int .i64 t.tk,.int .i64 t.mode,.int .i64 t.faults,.int .i64 t.ack,.int .i64 t.err,.int .i64 t.rej,.int .i64 t.q.w,.int .i64 t.q.x,.int .i64 t.q.y,.int .i64 t.q.z,.int .i64 t.d.x,.int .i64 t.d.y,.int .i64 t.d.z].map AV.val)
def ecS(bg:Int)(a:Option Addr)(n c:Nat)(cr:Crf)(tk i:Int)(lo:Nat)(tm:List (Nat×AV))(H:Hp):St:=gSt 60 ([(1,.func 16 [] []),(2,.ptr 4096 0),(4,.val (.bool false)),(5,.ptr eN1 0),(6,.val (.int .i64 tk)),(16,.val (.slice a n c)),(17,.val (.int .i64 n)),(18,.val (.int .i64 i))]++tm) ([(4096,plRow bg a n c),(eN1,.row 44 (crfRow cr))]++H) lo
def ecF(bg:Int)(a:Option Addr)(n c:Nat)(cr:Crf)(tk i k:Int)(d:ByteArray):St:=ecS bg a n c cr tk i eN3 [(8,.ptr eN2 0)] [(eN2,.row 70 [.val (.int .i64 k),.val (.string d)])]
def ecG(bg:Int)(a:Option Addr)(n c:Nat)(cr:Crf)(tk i k:Int)(d:ByteArray)(nx:Crf)(s:ByteArray):St:=ecS bg a n c cr tk i eN4 [(8,.ptr eN2 0),(9,.ptr eN3 0),(10,.val (.string s))] [(eN2,.row 70 [.val (.int .i64 k),.val (.string d)]),(eN3,.row 44 (crfRow nx))]
def ecH(bg:Int)(a:Option Addr)(n c:Nat)(cr:Crf)(tk i k:Int)(d:ByteArray)(nx:Crf)(t:Tl)(ok:Bool):St:=ecS bg a n c cr tk i eN5 [(8,.ptr eN2 0),(9,.ptr eN3 0),(11,.ptr eN4 0),(12,.val (.bool ok))] [(eN2,.row 70 [.val (.int .i64 k),.val (.string d)]),(eN3,.row 44 (crfRow nx)),(eN4,tlRow t)]
def ecV(b:Bool)(lo:Nat):St:=gSt 60 [(4,.val (.bool b))] [] lo
abbrev EcK:List Nat:=[4096,eN1]
abbrev EcT:List Nat:=[1,2,4,5,6,16,17,18]
section
variable (pre:StpA→Bool) (g:StpA→Two Crf ByteArray) (tp:ByteArray×Unit→Bool) (td:ByteArray×Unit→Two Tl Bool) (hd:HoldA→Bool)
variable (bg tk i k:Int) (a:Option Addr) (ad:Addr) (n c:Nat) (cr nx:Crf) (t:Bool) (tl:Tl) (d s:ByteArray)
noncomputable abbrev ecRun(pre:StpA→Bool)(g:StpA→Two Crf ByteArray)(tp:ByteArray×Unit→Bool)(td:ByteArray×Unit→Two Tl Bool)(hd:HoldA→Bool)(c:Code)(s:St)(ks ts:List Nat):Option (Ex×St):=gRun Tryz.prog {gam:=ecGam pre g tp td hd} 60 c s ks ts
def ecA(bg:Int)(a:Option Addr)(n c:Nat):St:=startS 60 [.val (.agg #[.int .i64 bg,.slice a n c]),.func 16 [] []] []
theorem ec_q0:ecRun pre g tp td hd (ecL 0) (ecA bg a n c) [4096] [1,2,4]=some (.normal,gSt 60 [(1,.func 16 [] []),(2,.ptr 4096 0),(4,.val (.bool false))] [(4096,plRow bg a n c)] eN1):=by kernel_rfl
theorem ec_q1:ecRun pre g tp td hd (ecL 1) (gSt 60 [(1,.func 16 [] []),(2,.ptr 4096 0),(4,.val (.bool false))] [(4096,plRow bg a n c)] eN1) EcK [1,2,4,5]=some (.normal,gSt 60 [(1,.func 16 [] []),(2,.ptr 4096 0),(4,.val (.bool false)),(5,.ptr eN1 0)] [(4096,plRow bg a n c),(eN1,.row 44 (crfRow crf0))] eN2):=by kernel_rfl
theorem ec_q2:ecRun pre g tp td hd (ecL 2) (gSt 60 [(1,.func 16 [] []),(2,.ptr 4096 0),(4,.val (.bool false)),(5,.ptr eN1 0)] [(4096,plRow bg a n c),(eN1,.row 44 (crfRow crf0))] eN2) EcK [1,2,4,5,6]=some (.normal,gSt 60 [(1,.func 16 [] []),(2,.ptr 4096 0),(4,.val (.bool false)),(5,.ptr eN1 0),(6,.val (.int .i64 bg))] [(4096,plRow bg a n c),(eN1,.row 44 (crfRow crf0))] eN2):=by kernel_rfl
theorem ec_q3:ecRun pre g tp td hd (seqL (ecL 3)) (gSt 60 [(1,.func 16 [] []),(2,.ptr 4096 0),(4,.val (.bool false)),(5,.ptr eN1 0),(6,.val (.int .i64 bg))] [(4096,plRow bg a n c),(eN1,.row 44 (crfRow crf0))] eN2) EcK EcT=some (.normal,ecS bg a n c crf0 bg 0 eN2 [] []):=by kernel_rfl
theorem ec_q4:ecRun pre g tp td hd (seqL ecB) (ecS bg a n c cr tk i eN2 [] []) EcK (19 :: EcT)=some (.normal,ecS bg a n c cr tk i eN2 [(19,.val (.bool (decide (i<n))))] []):=by kernel_rfl
theorem ec_qc:ecRun pre g tp td hd (seqL (seqR ecB)) (ecS bg a n c cr tk i eN2 [(19,.val (.bool t))] []) EcK EcT=bif t then some (.normal,ecS bg a n c cr tk i eN2 [] []) else some (.exit 0,ecS bg a n c cr tk i eN2 [] []):=by kernel_rfl
theorem ec_q5:opsRun Tryz.prog (callN Tryz.prog {gam:=ecGam pre g tp td hd} 4 (Bool×St)) (isSum (ecGam pre g tp td hd)) 60 ecO5 (ecO5.toList.drop 2) {ecS bg a n c cr tk i eN2 [] []with tmps:=((ecS bg a n c cr tk i eN2 [] []).tmps.set 20 (.val (.pointer (some ad)))).set 21 (.val (.agg (List.toArray [.int .i64 k,.string d])))} [] (endOps [4096,eN1,eN2] (restN 60 (8 :: EcT)))=some (true,ecF bg a n c cr tk i k d):=by kernel_rfl
end
end Go.Ab
namespace Go.Ab
open Go Go.Proofs
def clampI(k:Int):Int:=if 1000000<(if -1000000>k then -1000000 else k) then 1000000 else (if -1000000>k then -1000000 else k)
def laterV(tk k:Int):Int:=IntKind.i64.wrap (tk+clampI k)
def eN6:Nat:=4096+6*2^180
abbrev EcF:List Nat:=[4096,eN1,eN2]
section
variable (pre:StpA→Bool) (g:StpA→Two Crf ByteArray) (tp:ByteArray×Unit→Bool) (td:ByteArray×Unit→Two Tl Bool) (hd:HoldA→Bool)
variable (bg tk i k:Int) (a:Option Addr) (n c:Nat) (cr nx:Crf) (t:Bool) (tl:Tl) (d s:ByteArray)
def ecRet(bg:Int)(a:Option Addr)(n c:Nat)(cr:Crf)(tk i:Int)(lo:Nat):Option (Ex×St):=some (.ret,ecS bg a n c cr tk i lo [] [])
theorem ec_q6:ecRun pre g tp td hd (seqL (ecT 1)) (ecF bg a n c cr tk i k d) EcF (8 :: EcT)=some (.normal,ecF bg a n c cr (laterV tk k) i k d):=by kernel_rfl
theorem ec_q7:ecRun pre g tp td hd (seqL (ecT 2)) (ecF bg a n c cr tk i k d) [4096,eN1,eN2,eN3] (8 :: 9 :: 10 :: EcT)=bif pre (cr,tk,d,()) then some (.normal,ecG bg a n c cr tk i k d (g (cr,tk,d,())).a (g (cr,tk,d,())).b) else none:=by kernel_rfl
theorem ec_q8e:ecRun pre g tp td hd (seqL (ecT 3)) (ecG bg a n c cr tk i k d nx s) [4096,eN1] EcT=bif s.toList==(⟨#[]⟩:ByteArray).toList then bif !crfK nx cr then ecRet bg a n c cr tk i eN4 else some (.exit 1,ecS bg a n c cr tk i eN4 [] []) else some (.normal,ecS bg a n c cr tk i eN4 [] []):=by kernel_rfl
theorem ec_q8n:ecRun pre g tp td hd (seqL (ecT 3)) (ecG bg a n c cr tk i k d nx s) [4096,eN1,eN2,eN3] (8 :: 9 :: 10 :: EcT)=bif s.toList==(⟨#[]⟩:ByteArray).toList then bif !crfK nx cr then some (.ret,ecG bg a n c cr tk i k d nx s) else some (.exit 1,ecG bg a n c cr tk i k d nx s) else some (.normal,ecG bg a n c cr tk i k d nx s):=by kernel_rfl
theorem ec_q9:ecRun pre g tp td hd (seqL (ecT 4)) (ecG bg a n c cr tk i k d nx s) [4096,eN1,eN2,eN3,eN4] (8 :: 9 :: 11 :: 12 :: EcT)=bif tp (s,()) then some (.normal,ecH bg a n c cr tk i k d nx (td (s,())).a (td (s,())).b) else none:=by kernel_rfl
theorem ec_q10:ecRun pre g tp td hd (seqL (ecT 5)) (ecH bg a n c cr tk i k d nx tl t) [4096,eN1,eN2,eN3] (8 :: 9 :: EcT)=bif !t then some (.ret,ecS bg a n c cr tk i eN6 [(8,.ptr eN2 0),(9,.ptr eN3 0)] [(eN2,.row 70 [.val (.int .i64 k),.val (.string d)]),(eN3,.row 44 (crfRow nx))]) else bif !hd (cr,nx,tl,d,()) then some (.ret,ecS bg a n c cr tk i eN6 [(8,.ptr eN2 0),(9,.ptr eN3 0)] [(eN2,.row 70 [.val (.int .i64 k),.val (.string d)]),(eN3,.row 44 (crfRow nx))]) else some (.normal,ecS bg a n c cr tk i eN6 [(8,.ptr eN2 0),(9,.ptr eN3 0)] [(eN2,.row 70 [.val (.int .i64 k),.val (.string d)]),(eN3,.row 44 (crfRow nx))]):=by kernel_rfl
theorem ec_q11:ecRun pre g tp td hd (ecT 6) (ecS bg a n c cr tk i eN6 [(8,.ptr eN2 0),(9,.ptr eN3 0)] [(eN2,.row 70 [.val (.int .i64 k),.val (.string d)]),(eN3,.row 44 (crfRow nx))]) EcK EcT=some (.normal,ecS bg a n c nx tk i eN6 [] []):=by kernel_rfl
theorem ec_q15:ecRun pre g tp td hd (seqR (seqR (seqR ecB))) (ecS bg a n c cr tk i eN2 [] []) EcK EcT=some (.normal,ecS bg a n c cr tk (IntKind.i64.wrap (i+1)) eN2 [] []):=by kernel_rfl
theorem ec_q16:ecRun pre g tp td hd (ecR 4) (ecS bg a n c cr tk i eN2 [] []) [] [4]=some (.ret,ecV true eN2):=by kernel_rfl
theorem ec_res(b:Bool)(lo:Nat):resA Tryz.prog (ecV b lo) Tryz.f15.results.toList=some [.val (.bool b)]:=by kernel_rfl
theorem ec_clean(lo:Nat):okClean eN2 (ecS bg a n c cr tk i lo [] [])=true:=by kernel_rfl
theorem ec_len:(ecS bg a n c cr tk i eN2 [] []).tmps.length=60:=by kernel_rfl
end
end Go.Ab
namespace Go.Ab
open Go Go.Proofs
abbrev noOwn:Nat→Prop:=fun _=>False
abbrev noName:Nat→Option Nat:=fun _=>none
theorem calls_by{P:Program}{N:Nat}{f:FuncId}{fn:Func}{c:Code}(hfn:P.funcs[f]?=some fn)(hbody:fn.body=some c)(hN:fn.ntmps=N){args:List AV}{vals:List Value}(hle:args.length≤N)(w:World)(hv:Rels noName args vals){X:Value→Prop}
  (H:∀(a:Act) (Q:Exit→Act→World→Prop),StFits N w noOwn noName 4096 (4096+2^200) (startS N args []) a w→(∀(e:Ex) a' w' s' l v,(e=.normal∨e=.ret)→StFits N w noOwn noName 4096 (4096+2^200) s' a' w'→resA P s' fn.results.toList=some l→pack l=.val v→X v→Q e.to a' w')→c.wp P Q a w) :
  Calls P f (List.toArray vals) w fun e w'=>∃v,e=.returned v∧RowKit.Below w.heap.size w w'∧X v:=by
 subst hN
 have hlen:=Rels.length hv
 refine calls_of_wp hfn hbody ?_
 have hargsR:Rels noName (args++List.replicate (fn.ntmps-args.length) (.val undef)) (vals++List.replicate (fn.ntmps-args.length) undef):=Rels.append hv (Rels.undefs _ _)
 refine H _ _ ⟨noName,(startS fn.ntmps args []).u,⟨rfl,by simp;omega,fun t v hv=>?_,fun b e cs hb=>?_,fun b o hb=>?_,(fun _ _ _ h=>by cases h),(fun _ _ h=>by cases h),(fun _ _ _ _ _ h=>by cases h),(fun _ _ _ _ h=>by cases h),rfl,rfl,rfl,Nat.le_refl _,fun _ _ _=>rfl⟩,Sub.refl _,fun _ _ _=>rfl,Le.refl _,fun _ h _=>h,Nat.le_refl _,Nat.le_refl _⟩ ?_
 ·simp only[St.u,stU,startS,Option.map_eq_some_iff,Con.av.injEq]at hv
  obtain ⟨x,hx,rfl⟩:=hv
  obtain ⟨y,hy,hrel⟩:=Rels.get hargsR hx
  refine ⟨y,?_,hrel⟩
  rw[← hy]
  have:(List.toArray vals++Array.replicate (fn.ntmps-(List.toArray vals).size) undef)=List.toArray (vals++List.replicate (fn.ntmps-args.length) undef):=by
   apply Array.toList_inj.1;simp[hlen]
  simp only[this,List.getElem?_toArray]
 ·simp[St.u,stU,startS,numH,hget]at hb
 ·simp[St.u,stU,startS,numH,hget]at hb
 ·intro e a' w' s' l v he hst hr hp hX
  obtain ⟨σ,u,hf,hs,_⟩:=hst
  obtain ⟨x,hx,hrel⟩:=run_results (P:=P) (fn:=fn) hf hs hr
  rw[hp]at hrel
  simp only[Rel]at hrel
  subst hrel
  have hb:RowKit.Below w.heap.size w w':=⟨hf.os,hf.tape,hf.output,hf.grown,fun k hk=>hf.frame k hk fun h=>h⟩
  rcases he with rfl | rfl
  ·exact bodyPost_end hx hf.defers ⟨_,rfl,hb,hX⟩
  ·exact bodyPost_ret hx hf.defers ⟨_,rfl,hb,hX⟩
def lgSum(s:Int):List Rec→Bool
 | []=>true
 | r :: t=>bif decide (wI (s+(r.2.size:Int))>3000) then false else lgSum (wI (s+(r.2.size:Int))) t
def lightV(bg:Int)(rs:List Rec):Bool:=lgSum 0 rs&&(decide ((rs.length:Int)≤30)&&(decide (bg≥0)&&decide (bg≤157766400000)))
theorem lg_named(bg:Int)(a:Option Addr)(n c:Nat)(s i:Int)(lo:Nat):okClean lN1 {lgI bg a n c s i []with lo:=lo}=true:=by kernel_rfl
theorem lg_len(bg:Int)(a:Option Addr)(n c:Nat)(s i:Int):(lgI bg a n c s i []).tmps.length=35:=by kernel_rfl
theorem lg_resI(bg:Int)(a:Option Addr)(n c:Nat)(s i:Int)(lo:Nat):resA Tryz.prog {lgI bg a n c s i []with lo:=lo} Tryz.f14.results.toList=some [.val (.bool false)]:=by kernel_rfl
theorem lg_resV(b:Bool)(lo:Nat):resA Tryz.prog (lgV b lo) Tryz.f14.results.toList=some [.val (.bool b)]:=by kernel_rfl
abbrev LgFit(w:World)(s:St)(a:Act)(w':World):Prop:=StFits 35 w noOwn noName 4096 (4096+2^200) s a w'
theorem lg_g{c:Code}{s s1:St}{e:Ex}{ks ts:List Nat}(h:lgRun c s ks ts=some (e,s1)):RunsTo Tryz.prog 35 c s e s1:=gRun_runs (E:={gam:=[]}) GamOk.nil h
theorem StFits.let_go{N:Nat}{w0:World}{own:Nat→Prop}{lo0 hi0 lo:Nat}{s:St}{a:Act}{w:World}(h:StFits N w0 own noName lo0 hi0 s a w)(hok:okClean lo s=true)(hlo:lo0≤lo)(hhi:s.hi=hi0):StFits N w0 own noName lo0 hi0 {s with lo:=lo} a w:=by
 obtain ⟨σ,u,hf,hs,hn,hl,ho,h1,h2⟩:=h
 simp only[okClean,Bool.and_eq_true,List.all_eq_true,Nat.blt_eq]at hok
 obtain ⟨hct,hch⟩:=hok
 have hblk:∀b c,s.u (.blk b)=some c→cleanB lo hi0 b:=fun b c hb=>by
  have hm:=hget_mem (H:=s.heap) hb
  have :=(hch _ hm).1
  unfold cleanB
  omega
 have hcl:∀l c,s.u l=some c→CleanC lo hi0 c:=fun l c hl=>by
  cases l with
  | tmp t =>
   simp only[St.u,stU,Option.map_eq_some_iff]at hl
   obtain ⟨x,hx,rfl⟩:=hl
   intro b hb
   have :=hct x (List.mem_of_getElem? hx) b hb
   unfold cleanB
   omega
  | blk b =>
   have hm:=hget_mem (H:=s.heap) hl
   have :=(hch _ hm).2
   cases c with
   | av x=>intro d hd;have :=this d hd;unfold cleanB;omega
   | row e cs=>intro d hd;have :=this d hd;unfold cleanB;omega
   | obj o=>trivial
 have hw:Fits N w0 own σ s.u a w:=hf.sub hs
 refine ⟨cutσ σ lo hi0,s.u,?_,Sub.refl _,fun b hb1 hb2=>?_,fun b r hb=>(by cases hb),fun b hb1 hb2=>?_,hlo,h2⟩
 ·refine {hw with tmp:=fun t v hv=>?_,row:=fun b e cs hb=>?_,obj:=fun b o hb=>?_,inj:=fun b b' r h1 h2=>hw.inj b b' r (cutσ_some h1) (cutσ_some h2),bound:=fun b r hb=>hw.bound b r (cutσ_some hb),ownsR:=fun b e cs r hb hr=>hw.ownsR b e cs r hb (cutσ_some hr),ownsO:=fun b o r hb hr=>hw.ownsO b o r hb (cutσ_some hr)}
  ·obtain ⟨x,h3,h4⟩:=hw.tmp t v hv
   exact ⟨x,h3,Rel.cut v x (hcl _ _ hv) h4⟩
  ·obtain ⟨r,vs,h3,h4,h5⟩:=hw.row b e cs hb
   exact ⟨r,vs,by rw[cutσ_clean (hblk b _ hb)];exact h3,h4,Rels.cut cs vs (hcl _ _ hb) h5⟩
  ·obtain ⟨r,o',h3,h4,h5⟩:=hw.obj b o hb
   exact ⟨r,o',by rw[cutσ_clean (hblk b _ hb)];exact h3,h4,h5⟩
 ·have hb2:b<hi0:=by rw[← hhi];exact hb2
  unfold cutσ
  rw[if_pos ⟨hb1,hb2⟩]
 ·have :=ho b hb1 hb2
  unfold cutσ
  split
  ·rfl
  ·exact this
end Go.Ab
namespace Go.Ab
open Go Go.Proofs
theorem adds(a:Addr)(i j:Nat):(a.add i).add j=a.add (i+j):=by
 unfold Addr.add
 by_cases hi:i=0<;>by_cases hj:j=0<;>simp[hi,hj,Nat.add_assoc]
theorem lg_rounds{w:World}{bg:Int}{a:Option Addr}{c:Nat}{rs:List Rec}(hat:RecAt w a rs.length rs){Q:Exit→Act→World→Prop} :
  ∀(m i:Nat) (s:Int) (act:Act) (w':World),i+m=rs.length→(∀a' w2 s',lgSum s (rs.drop i)=true→LgFit w (lgI bg a rs.length c s' rs.length []) a' w2→Q (.exit 0) a' w2) →
   (∀a' w2 s' i' lo,lgSum s (rs.drop i)=false→LgFit w {lgI bg a rs.length c s' i' []with lo:=lo} a' w2→Q .ret a' w2)→LgFit w (lgI bg a rs.length c s i []) act w' →
   Code.rounds Tryz.prog (.seq (seqL lgB) (.seq (seqL (seqR lgB)) (.seq (.block 1 (.seq (.region 4 lgO4 false) (seqR lgB1))) (seqR (seqR (seqR lgB)))))) Q (m+1) act w':=by
 intro m
 induction m with
 | zero =>
  intro i s act w' hi hQ _ hst
  have hi':i=rs.length:=by omega
  subst hi'
  rw[rounds_succ]
  refine wp_seq (lg_g (lg_q3 bg s rs.length a rs.length c) _ _ _ _ _ act w' hst _ fun a1 w1 h1=>?_)
  rw[decide_eq_false (by omega)]at h1
  refine wp_seq (lg_g (lg_qc bg s rs.length a rs.length c false) _ _ _ _ _ a1 w1 h1 _ fun a2 w2 h2=>?_)
  exact hQ a2 w2 s (by rw[List.drop_of_length_le (Nat.le_refl _)];rfl) h2
 | succ m ih =>
  intro i s act w' hi hQ hR hst
  rw[rounds_succ]
  have hlt:i<rs.length:=by omega
  refine wp_seq (lg_g (lg_q3 bg s i a rs.length c) _ _ _ _ _ act w' hst _ fun a1 w1 h1=>?_)
  rw[decide_eq_true (by omega)]at h1
  refine wp_seq (lg_g (lg_qc bg s i a rs.length c true) _ _ _ _ _ a1 w1 h1 _ fun a2 w2 h2=>?_)
  refine wp_seq (wp_block (wp_seq (wp_region ?_)))
  rw[lg4_n]
  have hat2:RecAt w2 a rs.length rs:=hat.later (by obtain ⟨_,_,hf,_⟩:=h2;exact hf.grown) fun k hk=>h2.far hk fun h=>h
  obtain ⟨ad,rfl,_,hc0,hc1⟩:=hat2.lies i hlt
  obtain ⟨ti,hti,hs⟩:=info70
  refine index_fit lg4_0 (by omega) (lg_len ..) v22s hti h2 (b:=ad) (len:=rs.length) (cap:=c) (i:=i) (ik:=.i64) (h2.eval (t:=7) rfl) (h2.eval (t:=9) rfl) hlt _ fun a3 h3=>?_
  have ead:∀k,(ad.add (i*ti.size)).add k=ad.add (i*2+k):=by
   intro k
   rw[hs]
   exact adds ad (i*2) k
  refine load_fit lg4_1 (by omega) (by rw[List.length_set];exact lg_len ..) h3 (b:=ad.add (i*ti.size)) (h3.eval (t:=11) (by rw[List.getElem?_set_self (by rw[lg_len];omega)])) (run_rec (k:=rs[i].1) (d:=rs[i].2) (by rw[ead];exact hc0) (by rw[ead];exact hc1)) _ fun a4 h4=>?_
  refine ops_fit (callN_ok (E:={gam:=[]}) GamOk.nil 4 _) [4096,lN1] _ (lg_q4 bg s i rs[i].1 (some ad) (ad.add (i*ti.size)) rs.length c rs[i].2) (fun _ _ hj=>drop_at hj) h4 [] fun a5 w5 h5=>?_
  change Code.wp Tryz.prog (seqR lgB1) _ a5 w5
  have hd:rs.drop i=rs[i] :: rs.drop (i+1):=List.drop_eq_getElem_cons hlt
  have hq:=lg_q5 bg s i rs[i].1 (some ad) rs.length c rs[i].2
  rw[hd]at hQ hR
  cases hbig:decide (wI (s+(rs[i].2.size:Int))>3000) with
  | true =>
   rw[hbig,cond_true]at hq
   refine lg_g hq _ _ _ _ _ a5 w5 h5 _ fun a6 w6 h6=>?_
   exact hR a6 w6 _ _ _ (by unfold lgSum;rw[hbig];rfl) h6
  | false =>
   rw[hbig,cond_false]at hq
   refine lg_g hq _ _ _ _ _ a5 w5 h5 _ fun a6 w6 h6=>?_
   simp only[Ex.to,Exit.inBlock]
   have h7:=h6.let_go (lo:=lN1) (lg_named ..) (by show 4096≤lN1;decide +kernel) rfl
   have h8:LgFit w (lgI bg (some ad) rs.length c (wI (s+(rs[i].2.size:Int))) i []) a6 w6:=h7
   refine lg_g (lg_q8 bg _ i (some ad) rs.length c) _ _ _ _ _ a6 w6 h8 _ fun a7 w7 h9=>?_
   have hw:wI ((i:Int)+1)=((i+1:Nat):Int):=by have :=hat.small;unfold wI;rw[wrapM];omega
   rw[hw]at h9
   have hsum:lgSum s (rs[i] :: rs.drop (i+1))=lgSum (wI (s+(rs[i].2.size:Int))) (rs.drop (i+1)):=by
    show (bif decide (wI (s+(rs[i].2.size:Int))>3000) then false else lgSum (wI (s+(rs[i].2.size:Int))) (rs.drop (i+1)))=_
    rw[hbig]
    rfl
   rw[hsum]at hQ hR
   exact ih (i+1) _ a7 w7 (by omega) hQ hR h9
theorem light_calls(bg:Int)(a:Option Addr)(c:Nat)(rs:List Rec)(w:World)(hat:RecAt w a rs.length rs) :
  Calls Tryz.prog 14 #[.agg #[.int .i64 bg,.slice a rs.length c]] w fun e w'=>∃v,e=.returned v∧RowKit.Below w.heap.size w w'∧v=.bool (lightV bg rs):=by
 refine calls_by (vals:=[.agg #[.int .i64 bg,.slice a rs.length c]]) (args:=[.val (.agg #[.int .i64 bg,.slice a rs.length c])]) f14_is lg_is f14_N (by show 1≤35;omega) w (by simp only[Rels,Rel];exact ⟨_,_,rfl,rfl,rfl⟩) fun act Q hst hQ=>?_
 refine wp_seq (lg_g (lg_q0 bg a rs.length c) _ _ _ _ _ act w hst _ fun a1 w1 h1=>?_)
 refine wp_seq (lg_g (lg_q1 bg a rs.length c) _ _ _ _ _ a1 w1 h1 _ fun a2 w2 h2=>?_)
 refine wp_seq (wp_seq (lg_g (lg_q2 bg a rs.length c) _ _ _ _ _ a2 w2 h2 _ fun a3 w3 h3=>?_))
 refine wp_block (wp_loop_rounds (rs.length+1) (lg_rounds hat rs.length 0 0 a3 w3 (by omega) (fun a4 w4 s' hs h4=>?_) (fun a4 w4 s' i' lo hs h4=>?_) h3))
 ·simp only[Exit.inBlock,if_true]
  rw[List.drop_zero]at hs
  have hq:=lg_q9 bg s' rs.length a rs.length c
  have e:lightV bg rs=(decide ((rs.length:Int)≤30)&&(decide (bg≥0)&&decide (bg≤157766400000))):=by unfold lightV;rw[hs];rfl
  have go:lgRun (lgR 3) (lgI bg a rs.length c s' rs.length []) [] [2]=some (.ret,lgV (lightV bg rs) lN1):=by
   rw[hq,e]
   cases decide ((rs.length:Int)≤30)
   ·rfl
   ·cases decide (bg≥0)<;>rfl
  refine lg_g go _ _ _ _ _ a4 w4 h4 _ fun a5 w5 h5=>?_
  exact hQ .ret a5 w5 _ _ _ (.inr rfl) h5 (lg_resV ..) rfl rfl
 ·rw[List.drop_zero]at hs
  have e:lightV bg rs=false:=by unfold lightV;rw[hs];rfl
  exact hQ .ret a4 w4 _ _ _ (.inr rfl) h4 (lg_resI ..) rfl (by rw[e])
end Go.Ab
namespace Go.Ab
open Go Go.Proofs
def eachV(g:StpA→Two Crf ByteArray)(td:ByteArray×Unit→Two Tl Bool)(hd:HoldA→Bool)(cr:Crf)(tk:Int):List Rec→Bool
 | []=>true
 | r :: t =>
  bif (g (cr,laterV tk r.1,r.2,())).b.toList==(⟨#[]⟩:ByteArray).toList then bif !crfK (g (cr,laterV tk r.1,r.2,())).a cr then false else eachV g td hd cr (laterV tk r.1) t
  else bif !(td ((g (cr,laterV tk r.1,r.2,())).b,())).b then false else bif !hd (cr,(g (cr,laterV tk r.1,r.2,())).a,(td ((g (cr,laterV tk r.1,r.2,())).b,())).a,r.2,()) then false else eachV g td hd (g (cr,laterV tk r.1,r.2,())).a (laterV tk r.1) t
def EachOk(pre:StpA→Bool)(g:StpA→Two Crf ByteArray)(tp:ByteArray×Unit→Bool)(cr:Crf)(tk:Int):List Rec→Prop
 | []=>True
 | r :: t=>pre (cr,laterV tk r.1,r.2,())=true ∧
  (((g (cr,laterV tk r.1,r.2,())).b.toList==(⟨#[]⟩:ByteArray).toList)=true→EachOk pre g tp cr (laterV tk r.1) t) ∧
  (((g (cr,laterV tk r.1,r.2,())).b.toList==(⟨#[]⟩:ByteArray).toList)=false→tp ((g (cr,laterV tk r.1,r.2,())).b,())=true∧EachOk pre g tp (g (cr,laterV tk r.1,r.2,())).a (laterV tk r.1) t)
theorem ec_resS(bg:Int)(a:Option Addr)(n c:Nat)(cr:Crf)(tk i:Int)(lo:Nat)(H:Hp):resA Tryz.prog (ecS bg a n c cr tk i lo [] H) Tryz.f15.results.toList=some [.val (.bool false)]:=by kernel_rfl
theorem ec_resX(bg:Int)(a:Option Addr)(n c:Nat)(cr:Crf)(tk i:Int)(lo:Nat)(x y:AV)(H:Hp):resA Tryz.prog (ecS bg a n c cr tk i lo [(8,x),(9,y)] H) Tryz.f15.results.toList=some [.val (.bool false)]:=by kernel_rfl
abbrev EcFit(w:World)(s:St)(a:Act)(w':World):Prop:=StFits 60 w noOwn noName 4096 (4096+2^200) s a w'
section
variable {pre:StpA→Bool} {g:StpA→Two Crf ByteArray} {tp:ByteArray×Unit→Bool} {td:ByteArray×Unit→Two Tl Bool} {hd:HoldA→Bool} (hG:GamOk Tryz.prog (ecGam pre g tp td hd))
include hG
theorem ec_g{c:Code}{s s1:St}{e:Ex}{ks ts:List Nat}(h:ecRun pre g tp td hd c s ks ts=some (e,s1)):RunsTo Tryz.prog 60 c s e s1:=gRun_runs (E:={gam:=ecGam pre g tp td hd}) hG h
theorem ec_body{w:World}{bg tk:Int}{a:Option Addr}{n c i:Nat}{cr:Crf}{r:Rec}{t:List Rec}(hok:EachOk pre g tp cr tk (r :: t)){Q:Exit→Act→World→Prop}{act:Act}{w':World}(hst:EcFit w (ecF bg a n c cr tk i r.1 r.2) act w')
  (hN:∀a' w2 cr' e,(e=Ex.normal∨e=.exit 1)→EachOk pre g tp cr' (laterV tk r.1) t→eachV g td hd cr tk (r :: t)=eachV g td hd cr' (laterV tk r.1) t→EcFit w (ecS bg a n c cr' (laterV tk r.1) i eN2 [] []) a' w2→Q e.to a' w2)
  (hR:∀a' w2 s',eachV g td hd cr tk (r :: t)=false→EcFit w s' a' w2→resA Tryz.prog s' Tryz.f15.results.toList=some [.val (.bool false)]→Q .ret a' w2) :
  (Code.seq (seqL (ecT 1)) (.seq (seqL (ecT 2)) (.seq (seqL (ecT 3)) (.seq (seqL (ecT 4)) (.seq (seqL (ecT 5)) (ecT 6)))))).wp Tryz.prog Q act w':=by
 obtain ⟨hp,he1,he2⟩:=hok
 refine wp_seq (ec_g hG (ec_q6 pre g tp td hd bg tk i r.1 a n c cr r.2) _ _ _ _ _ act w' hst _ fun a1 w1 h1=>?_)
 have q7:=ec_q7 pre g tp td hd bg (laterV tk r.1) i r.1 a n c cr r.2
 rw[hp,cond_true]at q7
 refine wp_seq (ec_g hG q7 _ _ _ _ _ a1 w1 h1 _ fun a2 w2 h2=>?_)
 have hun:eachV g td hd cr tk (r :: t)=bif (g (cr,laterV tk r.1,r.2,())).b.toList==(⟨#[]⟩:ByteArray).toList then bif !crfK (g (cr,laterV tk r.1,r.2,())).a cr then false else eachV g td hd cr (laterV tk r.1) t
  else bif !(td ((g (cr,laterV tk r.1,r.2,())).b,())).b then false else bif !hd (cr,(g (cr,laterV tk r.1,r.2,())).a,(td ((g (cr,laterV tk r.1,r.2,())).b,())).a,r.2,()) then false else eachV g td hd (g (cr,laterV tk r.1,r.2,())).a (laterV tk r.1) t:=rfl
 generalize hy:g (cr,laterV tk r.1,r.2,())=y at *
 obtain ⟨nx,s⟩:=y
 dsimp only at he1 he2 hun h2
 have q8e:=ec_q8e pre g tp td hd bg (laterV tk r.1) i r.1 a n c cr nx r.2 s
 have q8n:=ec_q8n pre g tp td hd bg (laterV tk r.1) i r.1 a n c cr nx r.2 s
 have low:4096≤eN2:=by decide +kernel
 cases hs:s.toList==(⟨#[]⟩:ByteArray).toList with
 | true =>
  rw[hs,cond_true]at q8e hun
  cases hk:crfK nx cr with
  | false =>
   rw[hk]at q8e hun
   refine wp_seq (ec_g hG q8e _ _ _ _ _ a2 w2 h2 _ fun a3 w3 h3=>?_)
   exact hR a3 w3 _ (by rw[hun];rfl) h3 (ec_resS ..)
  | true =>
   rw[hk]at q8e hun
   refine wp_seq (ec_g hG q8e _ _ _ _ _ a2 w2 h2 _ fun a3 w3 h3=>?_)
   have h4:=h3.let_go (lo:=eN2) (ec_clean ..) low rfl
   exact hN a3 w3 cr (.exit 1) (.inr rfl) (he1 hs) (by rw[hun];rfl) h4
 | false =>
  rw[hs,cond_false]at q8n hun
  obtain ⟨ht,hok2⟩:=he2 hs
  refine wp_seq (ec_g hG q8n _ _ _ _ _ a2 w2 h2 _ fun a3 w3 h3=>?_)
  have q9:=ec_q9 pre g tp td hd bg (laterV tk r.1) i r.1 a n c cr nx r.2 s
  rw[ht,cond_true]at q9
  refine wp_seq (ec_g hG q9 _ _ _ _ _ a3 w3 h3 _ fun a4 w4 h4=>?_)
  have q10:=ec_q10 pre g tp td hd bg (laterV tk r.1) i r.1 a n c cr nx (td (s,())).b (td (s,())).a r.2
  cases hb:(td (s,())).b with
  | false =>
   rw[hb]at q10 hun h4
   refine wp_seq (ec_g hG q10 _ _ _ _ _ a4 w4 h4 _ fun a5 w5 h5=>?_)
   exact hR a5 w5 _ (by rw[hun];rfl) h5 (ec_resX ..)
  | true =>
   rw[hb]at q10 hun h4
   rw[Bool.not_true,cond_false]at q10 hun
   cases hh:hd (cr,nx,(td (s,())).a,r.2,()) with
   | false =>
    rw[hh]at q10 hun
    refine wp_seq (ec_g hG q10 _ _ _ _ _ a4 w4 h4 _ fun a5 w5 h5=>?_)
    exact hR a5 w5 _ (by rw[hun];rfl) h5 (ec_resX ..)
   | true =>
    rw[hh]at q10 hun
    refine wp_seq (ec_g hG q10 _ _ _ _ _ a4 w4 h4 _ fun a5 w5 h5=>?_)
    refine ec_g hG (ec_q11 pre g tp td hd bg (laterV tk r.1) i r.1 a n c cr nx r.2) _ _ _ _ _ a5 w5 h5 _ fun a6 w6 h6=>?_
    have h7:=h6.let_go (lo:=eN2) (ec_clean ..) low rfl
    exact hN a6 w6 nx .normal (.inl rfl) hok2 (by rw[hun];rfl) h7
theorem ec_rounds{w:World}{bg:Int}{a:Option Addr}{c:Nat}{rs:List Rec}(hat:RecAt w a rs.length rs){Q:Exit→Act→World→Prop} :
  ∀(m i:Nat) (cr:Crf) (tk:Int) (act:Act) (w':World),i+m=rs.length→EachOk pre g tp cr tk (rs.drop i)→(∀a' w2 cr' tk',eachV g td hd cr tk (rs.drop i)=true→EcFit w (ecS bg a rs.length c cr' tk' rs.length eN2 [] []) a' w2→Q (.exit 0) a' w2) →
   (∀a' w2 s',eachV g td hd cr tk (rs.drop i)=false→EcFit w s' a' w2→resA Tryz.prog s' Tryz.f15.results.toList=some [.val (.bool false)]→Q .ret a' w2)→EcFit w (ecS bg a rs.length c cr tk i eN2 [] []) act w' →
   Code.rounds Tryz.prog (.seq (seqL ecB) (.seq (seqL (seqR ecB)) (.seq (.block 1 (.seq (.region 5 ecO5 false) (.seq (seqL (ecT 1)) (.seq (seqL (ecT 2)) (.seq (seqL (ecT 3)) (.seq (seqL (ecT 4)) (.seq (seqL (ecT 5)) (ecT 6)))))))) (seqR (seqR (seqR ecB)))))) Q (m+1) act w':=by
 intro m
 induction m with
 | zero =>
  intro i cr tk act w' hi _ hQ _ hst
  have hi':i=rs.length:=by omega
  subst hi'
  rw[rounds_succ]
  refine wp_seq (ec_g hG (ec_q4 pre g tp td hd bg tk rs.length a rs.length c cr) _ _ _ _ _ act w' hst _ fun a1 w1 h1=>?_)
  rw[decide_eq_false (by omega)]at h1
  refine wp_seq (ec_g hG (ec_qc pre g tp td hd bg tk rs.length a rs.length c cr false) _ _ _ _ _ a1 w1 h1 _ fun a2 w2 h2=>?_)
  exact hQ a2 w2 cr tk (by rw[List.drop_of_length_le (Nat.le_refl _)];rfl) h2
 | succ m ih =>
  intro i cr tk act w' hi hok hQ hR hst
  rw[rounds_succ]
  have hlt:i<rs.length:=by omega
  refine wp_seq (ec_g hG (ec_q4 pre g tp td hd bg tk i a rs.length c cr) _ _ _ _ _ act w' hst _ fun a1 w1 h1=>?_)
  rw[decide_eq_true (by omega)]at h1
  refine wp_seq (ec_g hG (ec_qc pre g tp td hd bg tk i a rs.length c cr true) _ _ _ _ _ a1 w1 h1 _ fun a2 w2 h2=>?_)
  refine wp_seq (wp_block (wp_seq (wp_region ?_)))
  rw[ec5_n]
  have hat2:RecAt w2 a rs.length rs:=hat.later (by obtain ⟨_,_,hf,_⟩:=h2;exact hf.grown) fun k hk=>h2.far hk fun h=>h
  obtain ⟨ad,rfl,_,hc0,hc1⟩:=hat2.lies i hlt
  obtain ⟨ti,hti,hs⟩:=info70
  refine index_fit ec5_0 (by omega) (ec_len ..) v22s hti h2 (b:=ad) (len:=rs.length) (cap:=c) (i:=i) (ik:=.i64) (h2.eval (t:=16) rfl) (h2.eval (t:=18) rfl) hlt _ fun a3 h3=>?_
  have ead:∀k,(ad.add (i*ti.size)).add k=ad.add (i*2+k):=by
   intro k
   rw[hs]
   exact adds ad (i*2) k
  refine load_fit ec5_1 (by omega) (by rw[List.length_set];exact ec_len ..) h3 (b:=ad.add (i*ti.size)) (h3.eval (t:=20) (by rw[List.getElem?_set_self (by rw[ec_len];omega)])) (run_rec (k:=rs[i].1) (d:=rs[i].2) (by rw[ead];exact hc0) (by rw[ead];exact hc1)) _ fun a4 h4=>?_
  refine ops_fit (callN_ok (E:={gam:=ecGam pre g tp td hd}) hG 4 _) [4096,eN1,eN2] _ (ec_q5 pre g tp td hd bg tk i rs[i].1 (some ad) (ad.add (i*ti.size)) rs.length c cr rs[i].2) (fun _ _ hj=>drop_at hj) h4 [] fun a5 w5 h5=>?_
  have hdr:rs.drop i=rs[i] :: rs.drop (i+1):=List.drop_eq_getElem_cons hlt
  rw[hdr]at hok hQ hR
  refine ec_body hG hok h5 (fun a6 w6 cr' e he hok2 heq h6=>?_) fun a6 w6 s' hf h6 hr=>hR a6 w6 s' hf h6 hr
  rw[heq]at hQ hR
  have hw:IntKind.i64.wrap ((i:Int)+1)=((i+1:Nat):Int):=by have :=hat.small;rw[wrapM];omega
  have next:(seqR (seqR (seqR ecB))).wp Tryz.prog (Exit.then (Code.rounds Tryz.prog (.seq (seqL ecB) (.seq (seqL (seqR ecB)) (.seq (.block 1 (.seq (.region 5 ecO5 false) (.seq (seqL (ecT 1)) (.seq (seqL (ecT 2)) (.seq (seqL (ecT 3)) (.seq (seqL (ecT 4)) (.seq (seqL (ecT 5)) (ecT 6)))))))) (seqR (seqR (seqR ecB)))))) Q (m+1)) Q) a6 w6:=by
   refine ec_g hG (ec_q15 pre g tp td hd bg (laterV tk rs[i].1) i (some ad) rs.length c cr') _ _ _ _ _ a6 w6 h6 _ fun a7 w7 h9=>?_
   rw[hw]at h9
   exact ih (i+1) cr' _ a7 w7 (by omega) hok2 hQ hR h9
  rcases he with rfl | rfl
  ·simp only[Ex.to,Exit.inBlock]
   exact next
  ·simp only[Ex.to,Exit.inBlock,if_true]
   exact next
theorem each_calls(bg:Int)(a:Option Addr)(c:Nat)(rs:List Rec)(w:World)(hat:RecAt w a rs.length rs)(hok:EachOk pre g tp crf0 bg rs) :
  Calls Tryz.prog 15 #[.agg #[.int .i64 bg,.slice a rs.length c],.func (.func 16) #[] #[]] w fun e w'=>∃v,e=.returned v∧RowKit.Below w.heap.size w w'∧v=.bool (eachV g td hd crf0 bg rs):=by
 refine calls_by (vals:=[.agg #[.int .i64 bg,.slice a rs.length c],.func (.func 16) #[] #[]]) (args:=[.val (.agg #[.int .i64 bg,.slice a rs.length c]),.func 16 [] []]) f15_is ec_is f15_N (by show 2≤60;omega) w (by simp only[Rels,Rel];exact ⟨_,_,rfl,rfl,_,_,rfl,⟨_,_,rfl,rfl,rfl⟩,rfl⟩) fun act Q hst hQ=>?_
 refine wp_seq (ec_g hG (ec_q0 pre g tp td hd bg a rs.length c) _ _ _ _ _ act w hst _ fun a1 w1 h1=>?_)
 refine wp_seq (ec_g hG (ec_q1 pre g tp td hd bg a rs.length c) _ _ _ _ _ a1 w1 h1 _ fun a2 w2 h2=>?_)
 refine wp_seq (ec_g hG (ec_q2 pre g tp td hd bg a rs.length c) _ _ _ _ _ a2 w2 h2 _ fun a3 w3 h3=>?_)
 refine wp_seq (wp_seq (ec_g hG (ec_q3 pre g tp td hd bg a rs.length c) _ _ _ _ _ a3 w3 h3 _ fun a4 w4 h4=>?_))
 refine wp_block (wp_loop_rounds (rs.length+1) (ec_rounds hG hat rs.length 0 crf0 bg a4 w4 (by omega) (by rw[List.drop_zero];exact hok) (fun a5 w5 cr' tk' ht h5=>?_) (fun a5 w5 s' hf h5 hr=>?_) h4))
 ·simp only[Exit.inBlock,if_true]
  rw[List.drop_zero]at ht
  refine ec_g hG (ec_q16 pre g tp td hd bg tk' rs.length a rs.length c cr') _ _ _ _ _ a5 w5 h5 _ fun a6 w6 h6=>?_
  exact hQ .ret a6 w6 _ _ _ (.inr rfl) h6 (ec_res ..) rfl (by rw[ht])
 ·rw[List.drop_zero]at hf
  exact hQ .ret a5 w5 _ _ _ (.inr rfl) h5 hr rfl (by rw[hf])
end
end Go.Ab
namespace Go.Ab
open Go Go.Proofs
def andV(a b:Int):Int:=IntKind.i64.wrap ((BitVec.ofInt IntKind.i64.bits a &&& BitVec.ofInt IntKind.i64.bits b).toNat:Int)
def yesB(b:Bool):Option (AV×List Con):=some (.val (.bool b),[])
def gapsE(b:Crf):Bool:=bif b.plan.mode==1 then bif decide (andV b.plan.faults 1>0) then true else b.plan.mode==3 else b.plan.mode==3
def gapsV(p:HoldA):Bool:=bif p.1.plan.mode != 2 then true else bif decide (IntKind.i64.wrap (p.2.1.tk-p.1.tk)≥10) then bif decide (IntKind.i64.wrap (p.2.1.tk-p.1.tk)≤10000) then true else gapsE p.2.1 else gapsE p.2.1
theorem late_no{c:Crf}{tk:Int}(h:lateX c ST.rt tk=false):isTick tk=true∧(c.on=true→c.tk<tk):=by
 unfold lateX at h
 have hr:ST.rt (tk,())=isTick tk:=rfl
 rw[hr]at h
 cases ht:isTick tk with
 | false=>rw[ht]at h;cases h
 | true =>
  rw[ht,Bool.not_true,cond_false]at h
  refine ⟨rfl,fun hon=>?_⟩
  rw[hon,cond_true]at h
  have :=of_decide_eq_false h
  omega
theorem told_neC(x:CX):((cstT ST x).toList==(⟨#[]⟩:ByteArray).toList)=false:=by
 obtain ⟨l,h⟩:=told_some x
 rw[h,ByteArray.toList_eq,ByteArray.toList_eq,data_bsL]
 rfl
theorem each_holds{hd:HoldA→Bool}(hh:∀(c:Crf) (tk:Int) (b:ByteArray),CIn c→lateX c ST.rt tk=false→hd (c,(endX ST tk (cstH ST c tk b)).2.1,tellX (endX ST tk (cstH ST c tk b)),b,())=true) :
  ∀(rs:List Rec) (c:Crf) (tk:Int),CIn c→c.left.size+(rs.map fun r=>r.2.size).sum≤1099511627776→EachOk craftPre craftV toldPre c tk rs∧eachV craftV toldV hd c tk rs=true
 | [],_,_,_,_=>⟨trivial,rfl⟩
 | r :: t,c,tk,hc,hs=>by
  simp only[List.map_cons,List.sum_cons]at hs
  cases hl:lateX c ST.rt (laterV tk r.1) with
  | true =>
   have e:craftV (c,laterV tk r.1,r.2,())=⟨c,⟨#[]⟩⟩:=by unfold craftV stepO;dsimp only;rw[hl];rfl
   have hp:craftPre (c,laterV tk r.1,r.2,())=true:=by unfold craftPre stepPreO;dsimp only;rw[hl];rfl
   obtain ⟨i1,i2⟩:=each_holds hh t c (laterV tk r.1) hc (by omega)
   have em:((⟨#[]⟩:ByteArray).toList==(⟨#[]⟩:ByteArray).toList)=true:=by simp
   constructor
   ·unfold EachOk
    rw[e]
    exact ⟨hp,fun _=>i1,fun h=>(by rw[em]at h;cases h)⟩
   ·unfold eachV
    rw[e]
    dsimp only
    rw[em,crfK_self,cond_true]
    exact i2
  | false =>
   obtain ⟨ht,hon⟩:=late_no hl
   generalize hk:laterV tk r.1=k at *
   have hx:XIn k (gapV c k) (gapV c k==0) c.plan.mode (c.left.size+r.2.size) (cstH ST c k r.2):=(hc.start k (by omega)).heard r.2 (Nat.le_refl _)
   have hi:=end_in hx ht
   have hleft:=end_left hx
   have htk:(endX ST k (cstH ST c k r.2)).1.tk=k:=step_tk hx k
   obtain ⟨b1,b2⟩:=told_back (x:=endX ST k (cstH ST c k r.2)) hi (by rw[htk];exact ht)
   have e:craftV (c,k,r.2,())=⟨(endX ST k (cstH ST c k r.2)).2.1,cstT ST (endX ST k (cstH ST c k r.2))⟩:=by unfold craftV stepO;dsimp only;rw[hl];rfl
   have hp:craftPre (c,k,r.2,())=true:=by
    unfold craftPre stepPreO
    dsimp only
    rw[hl,cond_false]
    have h1:ST.hp (stp1 c k,c,rds0) (r.2,())=true:=decide_eq_true (by show c.left.size+r.2.size≤_;omega)
    rw[h1,hx.driftOk]
    rfl
   have hne:=told_neC (endX ST k (cstH ST c k r.2))
   obtain ⟨i1,i2⟩:=each_holds hh t (endX ST k (cstH ST c k r.2)).2.1 k hi (by omega)
   constructor
   ·unfold EachOk
    rw[hk,e]
    exact ⟨hp,fun h=>(by rw[hne]at h;cases h),fun _=>⟨b1,i1⟩⟩
   ·unfold eachV
    rw[hk,e]
    dsimp only
    rw[hne,cond_false,b2]
    dsimp only
    rw[hh c k r.2 hc hl]
    exact i2
end Go.Ab
namespace Go.Ab
open Go Go.Proofs
structure Amid(J:CX→Prop):Prop where
 rej:∀{x:CX},J x→J (rejX x)
 left:∀{x:CX} (l:ByteArray),J x→J (x.1,{x.2.1 with left:=l},x.2.2)
 ack:∀{x:CX} (o:Two Odr Int),J x→J (ackX x o)
 say:∀{x:CX} (n:Int),n=1∨n=2→J x→J (sayX x n)
 orb:∀{x:CX} (o:Orb),J x→J (orbX x o)
 clr:∀{x:CX},J x→J (clrX x)
 put:∀{x:CX} (r:Rds),J x→J (x.1,x.2.1,r)
 drift:∀{x:CX} (d:Dr),J x→J (x.1,{x.2.1 with drift:=d},x.2.2)
 look:∀{x:CX} (s:Stp),s.tk=x.1.tk→s.gap=x.1.gap→s.seen.gap=x.1.seen.gap→s.seen.order=x.1.seen.order→J x→J (s,x.2)
section
variable {J:CX→Prop}
theorem j_cond{c:Bool}{y z:CX}(hy:c=true→J y)(hz:c=false→J z):J (bif c then y else z):=by
 cases c
 ·exact hz rfl
 ·exact hy rfl
theorem Amid.order(A:Amid J){x:CX}(h:J x)(f:Fr×Unit):J (orderX x f):=by
 have ha:=A.ack (ordV f) h
 unfold orderX orderO
 exact j_cond (fun _=>A.rej ha) fun _=>j_cond (fun h1=>A.say _ (.inl (by simpa using h1)) ha) fun _=>j_cond (fun h1=>A.say _ (.inr (by simpa using h1)) ha) fun _=>j_cond (fun _=>A.orb _ ha) fun _=>j_cond (fun _=>A.clr ha) fun _=>ha
theorem Amid.hear(A:Amid J){x:CX}(h:J x)(f:Fr):J (hearF HR x f):=by
 have sens:∀p:CX,J p→J (sensX HR x f p):=fun p hp=>by
  unfold sensX
  exact j_cond (fun _=>j_cond (fun _=>hp) fun _=>A.rej h) fun _=>A.rej h
 unfold hearF
 exact j_cond (fun _=>sens _ (A.put _ h)) fun _=>j_cond (fun _=>sens _ (A.put _ h)) fun _=>j_cond (fun _=>sens _ (A.put _ h)) fun _=>j_cond (fun _=>A.order h _) fun _=>A.rej h
theorem Amid.hears(A:Amid J):∀(fs:List Fr) {x:CX},J x→J (fs.foldl (hearF HR) x)
 | [],_,h=>h
 | f :: fs,_,h=>A.hears fs (A.hear h f)
theorem Amid.heard(A:Amid J){x:CX}(h:J x)(b:ByteArray):J (hearO HR x (b,())):=by
 unfold hearO hearS
 refine A.hears _ ?_
 unfold hearHead
 exact j_cond (fun _=>A.rej (A.left _ h)) fun _=>A.left _ h
theorem Amid.drifted(A:Amid J){x:CX}(h:J x):J (cstD ST x):=by
 unfold cstD
 exact j_cond (fun _=>A.drift _ h) fun _=>h
theorem Amid.looked(A:Amid J){x:CX}(h:J x):J (lookX x):=by
 have hP:∀{y:CX} (fl:Bool),J y→J (lkPX LK y fl):=by
  intro y fl hy
  have hB:∀a b p,J (lkBX y a b p):=fun a b p=>A.look {y.1 with body:=⟨a,b⟩,seen:={y.1.seen with pair:=p}} rfl rfl rfl rfl hy
  unfold lkPX
  exact j_cond (fun _=>j_cond (fun _=>j_cond (fun _=>hB ..) fun _=>hB ..) fun _=>hB ..) fun _=>j_cond (fun _=>hB ..) fun _=>hB ..
 have hS:∀{y:CX} (a b c:V3×Bool),J y→J (lkSX LK y a b c):=by
  intro y a b c hy
  unfold lkSX
  exact j_cond (fun _=>A.look {y.1 with sky:=⟨b.1,c.1⟩} rfl rfl rfl rfl hy) fun _=>hP _ (A.look {y.1 with sky:=⟨b.1,c.1⟩,seen:={y.1.seen with lit:=!(LK.sh false (a.1,b.1,())).1}} rfl rfl rfl rfl hy)
 have hG:∀{y:CX},J y→J (lkGX LK y):=by
  intro y hy
  unfold lkGX
  exact j_cond (fun _=>hy) fun _=>hS _ _ _ hy
 unfold lookX lookO
 exact j_cond (fun _=>hG (A.look {x.1 with seen:={x.1.seen with gyro:=true,slow:=decide ((LK.vn false (x.2.2.r1.v,())).1≤54975581388)}} rfl rfl rfl rfl h)) fun _=>hG (A.look {x.1 with seen:={x.1.seen with gyro:=false}} rfl rfl rfl rfl h)
theorem Amid.seen(A:Amid J){c:Crf}{tk:Int}(h:J (stp1 c tk,c,rds0))(b:ByteArray):J (ST.lk (cstD ST (cstH ST c tk b))):=A.looked (A.drifted (A.heard h b))
structure Filt(x y:CX):Prop where
 tk:y.1.tk=x.1.tk
 gap:y.1.gap=x.1.gap
 sg:y.1.seen.gap=x.1.seen.gap
 od:y.1.seen.order=x.1.seen.order
 rd:y.2.2=x.2.2
 c:∃g,y.2.1={x.2.1 with guess:=g}
theorem filtered_is(x:CX):Filt x (filterX x):=by
 have hE:∀(a:Gs) (p f:Bool),Filt x (filtEX spreadP x a p f):=by
  intro a p f
  unfold filtEX
  exact j_cond (fun _=>⟨rfl,rfl,rfl,rfl,rfl,_,rfl⟩) fun _=>⟨rfl,rfl,rfl,rfl,rfl,_,rfl⟩
 have hM:∀(a:Gs×Bool),Filt x (filtMX meetP spreadP x a):=by
  intro a
  unfold filtMX
  exact j_cond (fun _=>j_cond (fun _=>hE ..) fun _=>hE ..) fun _=>hE ..
 unfold filterX filtX
 exact j_cond (fun _=>j_cond (fun _=>hM _) fun _=>hM _) fun _=>hM _
end
end Go.Ab
namespace Go.Ab
open Go Go.Proofs
def mdS(i o:Int):Sn:=⟨decide (andV i 1>0),decide (andV i 2>0),decide (andV i 4>0),decide (andV i 8>0),decide (andV i 16>0),decide (andV i 32>0),decide (andV i 64>0),o⟩
def mdF(p:Pl)(i:Int):Pl:=bif decide (andV i 128>0) then {p with faults:=0} else p
def mdBad(p now:Pl)(i:Int):Bool:=bif decide (andV i 32>0) then plK now ⟨1,0,0,0,0,orV (mdF p i).faults 4⟩ else false
def mdHit(p now:Pl)(i:Int):Bool:=plK (nextV (mdF p i) (mdS i 0)) now||(plK (nextV (mdF p i) (mdS i 1)) now||(plK (nextV (mdF p i) (mdS i 2)) now||mdBad p now i))
def bN(b:Bool)(n:Nat):Nat:=bif b then n else 0
def mdI(a b c d e f g h:Bool):Nat:=bN a 1+bN b 2+bN c 4+bN d 8+bN e 16+bN f 32+bN g 64+bN h 128
theorem mdI_bits:∀a b c d e f g h:Bool,mdI a b c d e f g h<256∧decide (andV (mdI a b c d e f g h) 1>0)=a∧decide (andV (mdI a b c d e f g h) 2>0)=b∧decide (andV (mdI a b c d e f g h) 4>0)=c∧decide (andV (mdI a b c d e f g h) 8>0)=d ∧
  decide (andV (mdI a b c d e f g h) 16>0)=e∧decide (andV (mdI a b c d e f g h) 32>0)=f∧decide (andV (mdI a b c d e f g h) 64>0)=g∧decide (andV (mdI a b c d e f g h) 128>0)=h:=by decide +kernel
theorem plK_self(p:Pl):plK p p=true:=by simp[plK,eqK]
theorem md_next(p q:Pl)(s:Sn)(hq:q=p∨q={p with faults:=0})(ho:s.order=0∨s.order=1∨s.order=2):∃i:Nat,i<256∧mdHit p (nextV q s) i=true:=by
 obtain ⟨a,b,c,d,e,f,g,o⟩:=s
 have key:∀h:Bool,q=(bif h then {p with faults:=0} else p)→∃i:Nat,i<256∧mdHit p (nextV q ⟨a,b,c,d,e,f,g,o⟩) i=true:=by
  intro h hh
  obtain ⟨h0,h1,h2,h3,h4,h5,h6,h7,h8⟩:=mdI_bits a b c d e f g h
  refine ⟨_,h0,?_⟩
  unfold mdHit
  have hs:∀o,mdS (mdI a b c d e f g h) o=⟨a,b,c,d,e,f,g,o⟩:=fun o=>by unfold mdS;rw[h1,h2,h3,h4,h5,h6,h7]
  have hf:mdF p (mdI a b c d e f g h)=q:=by unfold mdF;rw[h8,hh]
  rw[hs,hs,hs,hf]
  have ho':o=0∨o=1∨o=2:=ho
  rcases ho' with rfl | rfl | rfl<;>simp[plK_self]
 rcases hq with h | h
 ·exact key false h
 ·exact key true h
theorem md_bad(p q:Pl)(hq:q=p∨q={p with faults:=0}):∃i:Nat,i<256∧mdHit p ⟨1,0,0,0,0,orV q.faults 4⟩ i=true:=by
 have key:∀h:Bool,q=(bif h then {p with faults:=0} else p)→∃i:Nat,i<256∧mdHit p ⟨1,0,0,0,0,orV q.faults 4⟩ i=true:=by
  intro h hh
  obtain ⟨h0,h1,h2,h3,h4,h5,h6,h7,h8⟩:=mdI_bits false false false false false true false h
  refine ⟨_,h0,?_⟩
  have hf:mdF p (mdI false false false false false true false h)=q:=by unfold mdF;rw[h8,hh]
  unfold mdHit mdBad
  rw[hf,h6,cond_true,plK_self]
  simp
 rcases hq with h | h
 ·exact key false h
 ·exact key true h
theorem next_fine{p:Pl}{s:Sn}(h:(nextV p s).mode=2)(hp:(p.mode==2)=false):(nextV p s).faults=p.faults:=by
 revert h
 unfold nextV
 rw[hp]
 cases s.order==1 with
 | true=>intro _;rfl
 | false =>
 rw[cond_false]
 cases h3:p.mode==3 with
 | true =>
  rw[cond_true]
  cases s.order==2 with
  | true=>intro h;exact absurd h (by show ¬ (0:Int)=2;omega)
  | false=>intro _;rfl
 | false =>
 rw[cond_false]
 cases h0:p.mode==0 with
 | true =>
  rw[cond_true]
  dsimp only
  cases decide ((bif s.gyro&&s.slow then cntV p.calm else 0)≥3)<;>(intro _;rfl)
 | false =>
 rw[cond_false]
 cases h1:p.mode==1 with
 | true =>
  rw[cond_true]
  cases s.gap with
  | true=>intro h;exact absurd h (by show ¬ (1:Int)=2;omega)
  | false =>
  rw[cond_false]
  cases s.gyro&&!s.slow with
  | true=>intro _;rfl
  | false =>
  rw[cond_false]
  dsimp only
  cases decide ((bif s.gyro&&(s.pair&&s.lit) then cntV p.good else 0)≥2)<;>(intro _;rfl)
 | false=>intro _;rfl
structure MdIn(p:Pl)(x:CX):Prop where
 pl:x.2.1.plan=p∨x.2.1.plan={p with faults:=0}
 od:x.1.seen.order=0∨x.1.seen.order=1∨x.1.seen.order=2
theorem md_amid(p:Pl):Amid (MdIn p) where
 rej h:=⟨h.pl,h.od⟩
 left _ h:=⟨h.pl,h.od⟩
 ack _ h:=⟨h.pl,h.od⟩
 say _ hn h:=⟨h.pl,.inr hn⟩
 orb _ h:=⟨h.pl,h.od⟩
 clr h:=⟨.inr (by rcases h.pl with e | e<;>(unfold clrX;dsimp only;rw[e])),h.od⟩
 put _ h:=⟨h.pl,h.od⟩
 drift _ h:=⟨h.pl,h.od⟩
 look _ _ _ _ ho h:=⟨h.pl,by rw[ho];exact h.od⟩
theorem MdIn.fined{p:Pl}{x:CX}(h:MdIn p x):MdIn p (cstF ST x):=by
 have hf:MdIn p (ST.fi x):=by
  show MdIn p (filterX x)
  obtain ⟨_,_,_,ho,_,g,e⟩:=filtered_is x
  exact ⟨by rw[e];exact h.pl,by rw[ho];exact h.od⟩
 unfold cstF
 exact j_cond (fun _=>j_cond (fun _=>hf) fun _=>h) fun _=>h
theorem md_plan{p:Pl}{x:CX}(h:MdIn p x):∃i:Nat,i<256∧mdHit p (planX x).2.1.plan i=true:=by
 have hn:=md_next p x.2.1.plan x.1.seen h.pl h.od
 unfold planX planO
 dsimp only
 cases h2:(nextV x.2.1.plan x.1.seen).mode==2 with
 | true =>
  rw[cond_true]
  cases hm:x.2.1.plan.mode != 2 with
  | true =>
   rw[cond_true]
   cases (attitude false (x.1.sky,x.1.body,())).2 with
   | true =>
    rw[cond_true]
    have e:=next_fine (by simpa using h2) (p:=x.2.1.plan) (s:=x.1.seen) (by simpa using hm)
    have hb:=md_bad p x.2.1.plan h.pl
    rw[← e]at hb
    exact hb
   | false =>
    rw[cond_false]
    cases (nextV x.2.1.plan x.1.seen).mode != 2<;>exact hn
  | false =>
   rw[cond_false]
   cases (nextV x.2.1.plan x.1.seen).mode != 2<;>exact hn
 | false =>
  rw[cond_false]
  cases (nextV x.2.1.plan x.1.seen).mode != 2<;>exact hn
theorem md_step(c:Crf)(tk:Int)(b:ByteArray):∃i:Nat,i<256∧mdHit c.plan (endX ST tk (cstH ST c tk b)).2.1.plan i=true :=
 md_plan ((md_amid c.plan).seen (c:=c) (tk:=tk) ⟨.inl rfl,.inl rfl⟩ b).fined
end Go.Ab
namespace Go.Ab
open Go Go.Proofs
section
variable {P:Program} {N:Nat}
theorem RunsTo.blockR{id:Nat}{c:Code}{s s':St}(h:RunsTo P N c s .ret s'):RunsTo P N (.block id c) s .ret s':=by
 intro w0 own σ0 lo0 hi0 a w hst Q hQ
 exact wp_block (h w0 own σ0 lo0 hi0 a w hst _ fun a' w' hst'=>hQ a' w' hst')
theorem least{hit:Nat→Bool}:∀n:Nat,(∃i,i<n∧hit i=true)→∃i,i<n∧hit i=true∧∀j,j<i→hit j=false
 | 0,⟨i,hi,_⟩=>by omega
 | n+1,⟨i,hi,hh⟩=>by
  by_cases h:∃i,i<n∧hit i=true
  ·obtain ⟨k,h1,h2,h3⟩:=least n h
   exact ⟨k,by omega,h2,h3⟩
  ·refine ⟨i,hi,hh,fun j hj=>?_⟩
   cases hx:hit j with
   | false=>rfl
   | true=>exact absurd ⟨j,by omega,hx⟩ h
theorem RunsTo.search{c:Code}{id:Nat}(n:Nat)(hit:Nat→Bool)(I R:Nat→St)(E:St)(hy:∀i,i<n→hit i=true→RunsTo P N c (I i) .ret (R i))(hn:∀i,i<n→hit i=false→RunsTo P N c (I i) .normal (I (i+1)))
  (hE:RunsTo P N c (I n) (.exit id) E):(∃i,i<n∧hit i=true∧RunsTo P N (.block id (.loop c)) (I 0) .ret (R i))∨((∀i,i<n→hit i=false)∧RunsTo P N (.block id (.loop c)) (I 0) .normal E):=by
 by_cases h:∃i,i<n∧hit i=true
 ·obtain ⟨k,h1,h2,h3⟩:=least n h
  refine .inl ⟨k,h1,h2,RunsTo.blockR ?_⟩
  let ι:={i:Nat // i≤k}
  refine RunsTo.loop (ι:=ι) (fun i=>I i.1) (fun i=>k-i.1) (fun _=>R k) .ret ?_ ⟨0,by omega⟩
  rintro ⟨i,hi⟩
  dsimp only
  by_cases e:i=k
  ·subst e
   exact .inr ⟨hy i h1 h2,by simp⟩
  ·exact .inl ⟨⟨i+1,by omega⟩,by dsimp only;omega,rfl,hn i (by omega) (h3 i (by omega))⟩
 ·have hno:∀i,i<n→hit i=false:=fun i hi=>by
   cases hx:hit i with
   | false=>rfl
   | true=>exact absurd ⟨i,hi,hx⟩ h
  refine .inr ⟨hno,RunsTo.block (e:=.exit id) ?_ (.inr rfl)⟩
  let ι:={i:Nat // i≤n}
  refine RunsTo.loop (ι:=ι) (fun i=>I i.1) (fun i=>n-i.1) (fun _=>E) (.exit id) ?_ ⟨0,by omega⟩
  rintro ⟨i,hi⟩
  dsimp only
  by_cases e:i=n
  ·subst e
   exact .inr ⟨hE,by simp⟩
  ·exact .inl ⟨⟨i+1,by omega⟩,by dsimp only;omega,rfl,hn i (by omega) (hno i (by omega))⟩
end
noncomputable def mdR:Nat→Code
 | 0=>Tryz.f16.body.getD .skip
 | k+1=>seqR (mdR k)
noncomputable def mdL(k:Nat):Code:=seqL (mdR k)
noncomputable def mdB:Code:=inB (inB (seqR (mdL 1)))
noncomputable def mdP:Code:=seqL (seqR (seqR mdB))
theorem md_is:Tryz.f16.body=some (.seq (mdL 0) (.seq (.seq (seqL (mdL 1)) (.block 0 (.loop mdB))) (mdR 2))):=by kernel_rfl
theorem mdB_is:mdB=.seq (seqL mdB) (.seq (seqL (seqR mdB)) (.seq mdP (seqR (seqR (seqR mdB))))):=by kernel_rfl
theorem md_f16:Tryz.prog.funcs[16]?=some Tryz.f16:=by kernel_rfl
theorem f16_N:Tryz.f16.ntmps=68:=by kernel_rfl
def mdN1:Nat:=4096+1*2^180
def mdN3:Nat:=4096+3*2^180
def mdGam(nx:Pl×Sn×Unit→Pl):Gam:=[(17,S0 nx)]
def mdT(a b:Crf)(v:Bool)(lo:Nat)(tm:List (Nat×AV)):St:=gSt 68 ([(4,.ptr 4096 0),(5,.ptr mdN1 0),(8,.val (.bool v))]++tm) [(4096,.row 44 (crfRow a)),(mdN1,.row 44 (crfRow b))] lo
noncomputable abbrev mdRun(nx:Pl×Sn×Unit→Pl)(c:Code)(s:St)(ts:List Nat):Option (Ex×St):=gRun Tryz.prog {gam:=mdGam nx} 68 c s [4096,mdN1] ts
noncomputable abbrev mdCut(nx:Pl×Sn×Unit→Pl)(c:Code)(s:St)(ts:List Nat):Option (Ex×St):=gCut Tryz.prog {gam:=mdGam nx} 68 c s mdN3 [4096,mdN1] ts
def mdX(a b:Crf)(i:Int)(x:Bool):Option (Ex×St):=bif x then some (.ret,mdT a b true mdN3 [(13,.val (.int .i64 i))]) else some (.normal,mdT a b false mdN3 [(13,.val (.int .i64 i))])
def mdA(nx:Pl×Sn×Unit→Pl)(a b:Crf)(i:Int)(p:Pl):Option (Ex×St) :=
 bif plK (nx (p,mdS i 0,())) b.plan then mdX a b i true else bif plK (nx (p,mdS i 1,())) b.plan then mdX a b i true else bif plK (nx (p,mdS i 2,())) b.plan then mdX a b i true else
  bif decide (andV i 32>0) then mdX a b i (plK b.plan ⟨1,0,0,0,0,orV p.faults 4⟩) else mdX a b i false
section
variable (nx:Pl×Sn×Unit→Pl) (a b:Crf) (t:Tl) (s:ByteArray) (i:Int) (v:Bool)
theorem md_q0:mdRun nx (mdL 0) (startS 68 [.val (Cod.enc a),.val (Cod.enc b),.val (Cod.enc t),.val (.string s)] []) [4,5,8]=some (.normal,mdT a b false mdN3 []):=by kernel_rfl
theorem md_q1:mdRun nx (seqL (mdL 1)) (mdT a b false mdN3 []) [4,5,8,13]=some (.normal,mdT a b false mdN3 [(13,.val (.int .i64 0))]):=by kernel_rfl
theorem md_q2:mdRun nx (seqL mdB) (mdT a b false mdN3 [(13,.val (.int .i64 i))]) [4,5,8,13,14]=some (.normal,mdT a b false mdN3 [(13,.val (.int .i64 i)),(14,.val (.bool (decide (i<256))))]):=by kernel_rfl
theorem md_qc:mdRun nx (seqL (seqR mdB)) (mdT a b false mdN3 [(13,.val (.int .i64 i)),(14,.val (.bool v))]) [4,5,8,13]=bif v then some (.normal,mdT a b false mdN3 [(13,.val (.int .i64 i))]) else some (.exit 0,mdT a b false mdN3 [(13,.val (.int .i64 i))]):=by kernel_rfl
theorem md_q3:mdCut nx mdP (mdT a b false mdN3 [(13,.val (.int .i64 i))]) [4,5,8,13]=bif decide (andV i 128>0) then mdA nx a b i {a.plan with faults:=0} else mdA nx a b i a.plan:=by kernel_rfl
theorem md_q17:mdRun nx (seqR (seqR (seqR mdB))) (mdT a b false mdN3 [(13,.val (.int .i64 i))]) [4,5,8,13]=some (.normal,mdT a b false mdN3 [(13,.val (.int .i64 (IntKind.i64.wrap (i+1))))]):=by kernel_rfl
theorem md_q18:mdRun nx (mdR 2) (mdT a b false mdN3 [(13,.val (.int .i64 i))]) [8]=some (.ret,gSt 68 [(8,.val (.bool false))] [(4096,.row 44 (crfRow a)),(mdN1,.row 44 (crfRow b))] mdN3):=by kernel_rfl
theorem md_ok(lo:Nat):okClean mdN3 (mdT a b v lo [(13,.val (.int .i64 i))])=true:=by kernel_rfl
theorem md_resT:resA Tryz.prog (mdT a b true mdN3 [(13,.val (.int .i64 i))]) Tryz.f16.results.toList=some [.val (.bool true)]:=by kernel_rfl
theorem md_resF:resA Tryz.prog (gSt 68 [(8,.val (.bool false))] [(4096,.row 44 (crfRow a)),(mdN1,.row 44 (crfRow b))] mdN3) Tryz.f16.results.toList=some [.val (.bool false)]:=by kernel_rfl
end
abbrev mdNx:Pl×Sn×Unit→Pl:=fun p=>nextV p.1 p.2.1
theorem md_gam:GamOk Tryz.prog (mdGam mdNx):=.cons ok10 .nil
theorem mdA_is(a b:Crf)(i:Int):(bif decide (andV i 128>0) then mdA mdNx a b i {a.plan with faults:=0} else mdA mdNx a b i a.plan)=mdX a b i (mdHit a.plan b.plan i):=by
 have h:(bif decide (andV i 128>0) then mdA mdNx a b i {a.plan with faults:=0} else mdA mdNx a b i a.plan)=mdA mdNx a b i (mdF a.plan i):=by
  unfold mdF
  cases decide (andV i 128>0)<;>rfl
 rw[h]
 unfold mdA mdHit mdBad mdNx
 dsimp only
 cases plK (nextV (mdF a.plan i) (mdS i 0)) b.plan<;>cases plK (nextV (mdF a.plan i) (mdS i 1)) b.plan<;>cases plK (nextV (mdF a.plan i) (mdS i 2)) b.plan<;>cases decide (andV i 32>0)<;>rfl
def modesV(p:HoldA):Bool:=(List.range 256).any fun i=>mdHit p.1.plan p.2.1.plan i
section
variable (a b:Crf)
theorem md_body(i:Nat):RunsTo Tryz.prog 68 mdP (mdT a b false mdN3 [(13,.val (.int .i64 i))]) (bif mdHit a.plan b.plan i then .ret else .normal) (mdT a b (mdHit a.plan b.plan i) mdN3 [(13,.val (.int .i64 i))]):=by
 have h:=(md_q3 mdNx a b i).trans (mdA_is a b i)
 unfold mdX at h
 generalize mdHit a.plan b.plan i=v at h ⊢
 cases v with
 | true=>exact gCut_runs (E:={gam:=mdGam mdNx}) md_gam h rfl (md_ok ..) rfl
 | false=>exact gCut_runs (E:={gam:=mdGam mdNx}) md_gam h rfl (md_ok ..) rfl
theorem md_head(i:Nat)(v:Bool)(hv:decide ((i:Int)<256)=v){e:Ex}{s:St}(h:(bif v then (some (.normal,mdT a b false mdN3 [(13,.val (.int .i64 i))]):Option (Ex×St)) else some (.exit 0,mdT a b false mdN3 [(13,.val (.int .i64 i))]))=some (e,s)) :
  RunsTo Tryz.prog 68 (seqL mdB) (mdT a b false mdN3 [(13,.val (.int .i64 i))]) .normal (mdT a b false mdN3 [(13,.val (.int .i64 i)),(14,.val (.bool v))])∧RunsTo Tryz.prog 68 (seqL (seqR mdB)) (mdT a b false mdN3 [(13,.val (.int .i64 i)),(14,.val (.bool v))]) e s:=by
 subst hv
 exact ⟨gRun_runs (E:={gam:=mdGam mdNx}) md_gam (md_q2 mdNx a b i),gRun_runs (E:={gam:=mdGam mdNx}) md_gam ((md_qc mdNx a b i _).trans h)⟩
theorem md_loop:(∃i,i<256∧mdHit a.plan b.plan (i:Nat)=true∧RunsTo Tryz.prog 68 (.block 0 (.loop mdB)) (mdT a b false mdN3 [(13,.val (.int .i64 0))]) .ret (mdT a b true mdN3 [(13,.val (.int .i64 (i:Nat)))])) ∨
  ((∀i:Nat,i<256→mdHit a.plan b.plan (i:Nat)=false)∧RunsTo Tryz.prog 68 (.block 0 (.loop mdB)) (mdT a b false mdN3 [(13,.val (.int .i64 0))]) .normal (mdT a b false mdN3 [(13,.val (.int .i64 (256:Nat)))])):=by
 refine RunsTo.search 256 (fun i=>mdHit a.plan b.plan (i:Nat)) (fun i=>mdT a b false mdN3 [(13,.val (.int .i64 (i:Nat)))]) (fun i=>mdT a b true mdN3 [(13,.val (.int .i64 (i:Nat)))]) _ (fun i hi hh=>?_) (fun i hi hh=>?_) ?_
 ·obtain ⟨h1,h2⟩:=md_head a b i true (decide_eq_true (by omega)) rfl
  have h3:=md_body a b i
  have hh:mdHit a.plan b.plan (i:Nat)=true:=hh
  rw[hh]at h3
  rw[mdB_is]
  exact h1.seq (h2.seq (RunsTo.seqR h3))
 ·obtain ⟨h1,h2⟩:=md_head a b i true (decide_eq_true (by omega)) rfl
  have h3:=md_body a b i
  have hh:mdHit a.plan b.plan (i:Nat)=false:=hh
  rw[hh]at h3
  have h4:=gRun_runs (E:={gam:=mdGam mdNx}) md_gam (md_q17 mdNx a b i)
  have e:IntKind.i64.wrap ((i:Int)+1)=((i+1:Nat):Int):=by rw[wrapM];omega
  rw[e]at h4
  rw[mdB_is]
  exact h1.seq (h2.seq (h3.seq h4))
 ·obtain ⟨h1,h2⟩:=md_head a b 256 false (decide_eq_false (by omega)) rfl
  rw[mdB_is]
  exact h1.seq (RunsTo.seqX h2)
theorem md_all(t:Tl)(s:ByteArray):∃s',RunsTo Tryz.prog 68 (.seq (mdL 0) (.seq (.seq (seqL (mdL 1)) (.block 0 (.loop mdB))) (mdR 2))) (startS 68 [.val (Cod.enc a),.val (Cod.enc b),.val (Cod.enc t),.val (.string s)] []) .ret s' ∧
  resA Tryz.prog s' Tryz.f16.results.toList=some [.val (.bool (modesV (a,b,t,s,())))]:=by
 have h0:=gRun_runs (E:={gam:=mdGam mdNx}) md_gam (md_q0 mdNx a b t s)
 have h1:=gRun_runs (E:={gam:=mdGam mdNx}) md_gam (md_q1 mdNx a b)
 rcases md_loop a b with ⟨i,hi,hh,hr⟩ | ⟨hno,hr⟩
 ·have e:modesV (a,b,t,s,())=true:=by
   unfold modesV
   rw[List.any_eq_true]
   exact ⟨i,List.mem_range.2 hi,hh⟩
  rw[e]
  exact ⟨_,h0.seq (RunsTo.seqR (h1.seq hr)),md_resT a b i⟩
 ·have e:modesV (a,b,t,s,())=false:=by
   unfold modesV
   rw[List.any_eq_false]
   intro i hi
   have :=hno i (List.mem_range.1 hi)
   simp[this]
  rw[e]
  exact ⟨_,h0.seq ((h1.seq hr).seq (gRun_runs (E:={gam:=mdGam mdNx}) md_gam (md_q18 mdNx a b _))),md_resF a b⟩
end
theorem okModes:SumOk Tryz.prog 16 (S0 modesV):=by
 intro args cs r cs' hs
 obtain ⟨⟨a,b,t,s,_⟩,rfl,rfl,rfl,rfl⟩:=S0_sel hs
 obtain ⟨s',h1,h2⟩:=md_all a b t s
 exact sum_runs md_f16 md_is f16_N (by show 4≤68;omega) (by simp) rfl rfl rfl (.inr rfl) h1 h2 rfl rfl (fun _ _ h=>by simp at h) rfl rfl
theorem modes_step{c:Crf}{tk:Int}{b:ByteArray}(t:Tl):modesV (c,(endX ST tk (cstH ST c tk b)).2.1,t,b,())=true:=by
 obtain ⟨i,hi,hh⟩:=md_step c tk b
 unfold modesV
 rw[List.any_eq_true]
 exact ⟨i,List.mem_range.2 hi,hh⟩
end Go.Ab
