/- A part of the proofs: lemmas, no statement of their own; no condition. -/
import Derived.Test.YtoocjipllmkjcaaGreatGCrQ
import Derived.Test.YtoocjipllmkjcaaGreatGNumA
set_option linter.unusedSimpArgs false
namespace Go.Ab
open Go Go.Proofs
noncomputable def ecR:Nat→Code
 | 0=>Tryz.f15.body.getD .skip
 | k+1=>seqR (ecR k)
noncomputable def ecL(k:Nat):Code:=seqL (ecR k)
noncomputable def ecB:Code:=inB (inB (seqR (ecL 3)))
noncomputable def ecB1:Code:=inB (seqL (seqR (seqR ecB)))
noncomputable def ecT:Nat→Code
 | 0=>ecB1
 | k+1=>seqR (ecT k)
noncomputable def ecO5:Array Oper:=regO (seqL ecB1)
theorem ec_is:Tryz.f15.body=some (.seq (ecL 0) (.seq (ecL 1) (.seq (ecL 2) (.seq (.seq (seqL (ecL 3)) (.block 0 (.loop (.seq (seqL ecB) (.seq (seqL (seqR ecB)) (.seq (.block 1 (.seq (.region 5 ecO5 false) (.seq (seqL (ecT 1)) (.seq (seqL (ecT 2)) (.seq (seqL (ecT 3)) (.seq (seqL (ecT 4)) (.seq (seqL (ecT 5)) (ecT 6)))))))) (seqR (seqR (seqR ecB))))))))) (ecR 4))))):=by kernel_rfl
theorem f15_is:Tryz.prog.funcs[15]?=some Tryz.f15:=by kernel_rfl
theorem f15_N:Tryz.f15.ntmps=60:=by kernel_rfl
theorem ec5_0:sigOf ecO5 0=some (.indexAddr 22 (.tmp 16) (.tmp 18),some 20,true):=by kernel_rfl
theorem ec5_1:sigOf ecO5 1=some (.load 70 (.tmp 20),some 21,true):=by kernel_rfl
theorem ec5_n:List.range ecO5.size=0 :: 1 :: ((List.range (ecO5.toList.drop 2).length).map (2+·)++[]):=by kernel_rfl
def eN1:Nat:=4096+1*2^180
def eN2:Nat:=4096+2*2^180
def eN3:Nat:=4096+3*2^180
def eN4:Nat:=4096+4*2^180
def eN5:Nat:=4096+5*2^180
abbrev HoldA:=Crf×Crf×Tl×ByteArray×Unit
def ecGam(pre:StpA→Bool)(g:StpA→Two Crf ByteArray)(tp:ByteArray×Unit→Bool)(td:ByteArray×Unit→Two Tl Bool)(hd:HoldA→Bool):Gam:=[(25,S0w pre g),(44,S0c tp td),(19,S0 hd)]
def tlRow(t:Tl):Con:=.row 48 ([.int .i64 t.tk,.int .i64 t.mode,.int .i64 t.faults,.int .i64 t.ack,.int .i64 t.err,.int .i64 t.rej,.int .i64 t.q.w,.int .i64 t.q.x,.int .i64 t.q.y,.int .i64 t.q.z,.int .i64 t.d.x,.int .i64 t.d.y,.int .i64 t.d.z].map AV.val)
def ecS(bg:Int)(a:Option Addr)(n c:Nat)(cr:Crf)(tk i:Int)(lo:Nat)(tm:List (Nat×AV))(H:Hp):St:=gSt 60 ([(1,.func 19 [] []),(2,.ptr 4096 0),(4,.val (.bool false)),(5,.ptr eN1 0),(6,.val (.int .i64 tk)),(16,.val (.slice a n c)),(17,.val (.int .i64 n)),(18,.val (.int .i64 i))]++tm) ([(4096,plRow bg a n c),(eN1,.row 44 (crfRow cr))]++H) lo
def ecF(bg:Int)(a:Option Addr)(n c:Nat)(cr:Crf)(tk i k:Int)(d:ByteArray):St:=ecS bg a n c cr tk i eN3 [(8,.ptr eN2 0)] [(eN2,.row 70 [.val (.int .i64 k),.val (.string d)])]
def ecG(bg:Int)(a:Option Addr)(n c:Nat)(cr:Crf)(tk i k:Int)(d:ByteArray)(nx:Crf)(s:ByteArray):St:=ecS bg a n c cr tk i eN4 [(8,.ptr eN2 0),(9,.ptr eN3 0),(10,.val (.string s))] [(eN2,.row 70 [.val (.int .i64 k),.val (.string d)]),(eN3,.row 44 (crfRow nx))]
def ecH(bg:Int)(a:Option Addr)(n c:Nat)(cr:Crf)(tk i k:Int)(d:ByteArray)(nx:Crf)(t:Tl)(ok:Bool):St:=ecS bg a n c cr tk i eN5 [(8,.ptr eN2 0),(9,.ptr eN3 0),(11,.ptr eN4 0),(12,.val (.bool ok))] [(eN2,.row 70 [.val (.int .i64 k),.val (.string d)]),(eN3,.row 44 (crfRow nx)),(eN4,tlRow t)]
def ecV(b:Bool)(lo:Nat):St:=gSt 60 [(4,.val (.bool b))] [] lo
abbrev EcK:List Nat:=[4096,eN1]
abbrev EcT:List Nat:=[1,2,4,5,6,16,17,18]
section
variable (pre:StpA→Bool) (g:StpA→Two Crf ByteArray) (tp:ByteArray×Unit→Bool) (td:ByteArray×Unit→Two Tl Bool) (hd:HoldA→Bool)
variable (bg tk i k:Int) (a:Option Addr) (ad:Addr) (n c:Nat) (cr nx:Crf) (t:Bool) (tl:Tl) (d s:ByteArray)
noncomputable abbrev ecRun(pre:StpA→Bool)(g:StpA→Two Crf ByteArray)(tp:ByteArray×Unit→Bool)(td:ByteArray×Unit→Two Tl Bool)(hd:HoldA→Bool)(c:Code)(s:St)(ks ts:List Nat):Option (Ex×St):=gRun Tryz.prog {gam:=ecGam pre g tp td hd} 60 c s ks ts
def ecA(bg:Int)(a:Option Addr)(n c:Nat):St:=startS 60 [.val (.agg #[.int .i64 bg,.slice a n c]),.func 19 [] []] []
theorem ec_q0:ecRun pre g tp td hd (ecL 0) (ecA bg a n c) [4096] [1,2,4]=some (.normal,gSt 60 [(1,.func 19 [] []),(2,.ptr 4096 0),(4,.val (.bool false))] [(4096,plRow bg a n c)] eN1):=by kernel_rfl
theorem ec_q1:ecRun pre g tp td hd (ecL 1) (gSt 60 [(1,.func 19 [] []),(2,.ptr 4096 0),(4,.val (.bool false))] [(4096,plRow bg a n c)] eN1) EcK [1,2,4,5]=some (.normal,gSt 60 [(1,.func 19 [] []),(2,.ptr 4096 0),(4,.val (.bool false)),(5,.ptr eN1 0)] [(4096,plRow bg a n c),(eN1,.row 44 (crfRow crf0))] eN2):=by kernel_rfl
theorem ec_q2:ecRun pre g tp td hd (ecL 2) (gSt 60 [(1,.func 19 [] []),(2,.ptr 4096 0),(4,.val (.bool false)),(5,.ptr eN1 0)] [(4096,plRow bg a n c),(eN1,.row 44 (crfRow crf0))] eN2) EcK [1,2,4,5,6]=some (.normal,gSt 60 [(1,.func 19 [] []),(2,.ptr 4096 0),(4,.val (.bool false)),(5,.ptr eN1 0),(6,.val (.int .i64 bg))] [(4096,plRow bg a n c),(eN1,.row 44 (crfRow crf0))] eN2):=by kernel_rfl
theorem ec_q3:ecRun pre g tp td hd (seqL (ecL 3)) (gSt 60 [(1,.func 19 [] []),(2,.ptr 4096 0),(4,.val (.bool false)),(5,.ptr eN1 0),(6,.val (.int .i64 bg))] [(4096,plRow bg a n c),(eN1,.row 44 (crfRow crf0))] eN2) EcK EcT=some (.normal,ecS bg a n c crf0 bg 0 eN2 [] []):=by kernel_rfl
theorem ec_q4:ecRun pre g tp td hd (seqL ecB) (ecS bg a n c cr tk i eN2 [] []) EcK (19 :: EcT)=some (.normal,ecS bg a n c cr tk i eN2 [(19,.val (.bool (decide (i<n))))] []):=by kernel_rfl
theorem ec_qc:ecRun pre g tp td hd (seqL (seqR ecB)) (ecS bg a n c cr tk i eN2 [(19,.val (.bool t))] []) EcK EcT=bif t then some (.normal,ecS bg a n c cr tk i eN2 [] []) else some (.exit 0,ecS bg a n c cr tk i eN2 [] []):=by kernel_rfl
theorem ec_q5:opsRun Tryz.prog (callN Tryz.prog {gam:=ecGam pre g tp td hd} 4 (Bool×St)) (isSum (ecGam pre g tp td hd)) 60 ecO5 (ecO5.toList.drop 2) {ecS bg a n c cr tk i eN2 [] []with tmps:=((ecS bg a n c cr tk i eN2 [] []).tmps.set 20 (.val (.pointer (some ad)))).set 21 (.val (.agg (List.toArray [.int .i64 k,.string d])))} [] (endOps [4096,eN1,eN2] (restN 60 (8 :: EcT)))=some (true,ecF bg a n c cr tk i k d):=by kernel_rfl
end
end Go.Ab
namespace Go.Ab
open Go Go.Proofs
def clampI(k:Int):Int:=if 1000000<(if -1000000>k then -1000000 else k) then 1000000 else (if -1000000>k then -1000000 else k)
def laterV(tk k:Int):Int:=IntKind.i64.wrap (tk+clampI k)
def eN6:Nat:=4096+6*2^180
abbrev EcF:List Nat:=[4096,eN1,eN2]
section
variable (pre:StpA→Bool) (g:StpA→Two Crf ByteArray) (tp:ByteArray×Unit→Bool) (td:ByteArray×Unit→Two Tl Bool) (hd:HoldA→Bool)
variable (bg tk i k:Int) (a:Option Addr) (n c:Nat) (cr nx:Crf) (t:Bool) (tl:Tl) (d s:ByteArray)
def ecRet(bg:Int)(a:Option Addr)(n c:Nat)(cr:Crf)(tk i:Int)(lo:Nat):Option (Ex×St):=some (.ret,ecS bg a n c cr tk i lo [] [])
theorem ec_q6:ecRun pre g tp td hd (seqL (ecT 1)) (ecF bg a n c cr tk i k d) EcF (8 :: EcT)=some (.normal,ecF bg a n c cr (laterV tk k) i k d):=by kernel_rfl
theorem ec_q7:ecRun pre g tp td hd (seqL (ecT 2)) (ecF bg a n c cr tk i k d) [4096,eN1,eN2,eN3] (8 :: 9 :: 10 :: EcT)=bif pre (cr,tk,d,()) then some (.normal,ecG bg a n c cr tk i k d (g (cr,tk,d,())).a (g (cr,tk,d,())).b) else none:=by kernel_rfl
theorem ec_q8e:ecRun pre g tp td hd (seqL (ecT 3)) (ecG bg a n c cr tk i k d nx s) [4096,eN1] EcT=bif s.toList==(⟨#[]⟩:ByteArray).toList then bif !crfK nx cr then ecRet bg a n c cr tk i eN4 else some (.exit 1,ecS bg a n c cr tk i eN4 [] []) else some (.normal,ecS bg a n c cr tk i eN4 [] []):=by kernel_rfl
theorem ec_q8n:ecRun pre g tp td hd (seqL (ecT 3)) (ecG bg a n c cr tk i k d nx s) [4096,eN1,eN2,eN3] (8 :: 9 :: 10 :: EcT)=bif s.toList==(⟨#[]⟩:ByteArray).toList then bif !crfK nx cr then some (.ret,ecG bg a n c cr tk i k d nx s) else some (.exit 1,ecG bg a n c cr tk i k d nx s) else some (.normal,ecG bg a n c cr tk i k d nx s):=by kernel_rfl
theorem ec_q9:ecRun pre g tp td hd (seqL (ecT 4)) (ecG bg a n c cr tk i k d nx s) [4096,eN1,eN2,eN3,eN4] (8 :: 9 :: 11 :: 12 :: EcT)=bif tp (s,()) then some (.normal,ecH bg a n c cr tk i k d nx (td (s,())).a (td (s,())).b) else none:=by kernel_rfl
theorem ec_q10:ecRun pre g tp td hd (seqL (ecT 5)) (ecH bg a n c cr tk i k d nx tl t) [4096,eN1,eN2,eN3] (8 :: 9 :: EcT)=bif !t then some (.ret,ecS bg a n c cr tk i eN6 [(8,.ptr eN2 0),(9,.ptr eN3 0)] [(eN2,.row 70 [.val (.int .i64 k),.val (.string d)]),(eN3,.row 44 (crfRow nx))]) else bif !hd (cr,nx,tl,d,()) then some (.ret,ecS bg a n c cr tk i eN6 [(8,.ptr eN2 0),(9,.ptr eN3 0)] [(eN2,.row 70 [.val (.int .i64 k),.val (.string d)]),(eN3,.row 44 (crfRow nx))]) else some (.normal,ecS bg a n c cr tk i eN6 [(8,.ptr eN2 0),(9,.ptr eN3 0)] [(eN2,.row 70 [.val (.int .i64 k),.val (.string d)]),(eN3,.row 44 (crfRow nx))]):=by kernel_rfl
theorem ec_q11:ecRun pre g tp td hd (ecT 6) (ecS bg a n c cr tk i eN6 [(8,.ptr eN2 0),(9,.ptr eN3 0)] [(eN2,.row 70 [.val (.int .i64 k),.val (.string d)]),(eN3,.row 44 (crfRow nx))]) EcK EcT=some (.normal,ecS bg a n c nx tk i eN6 [] []):=by kernel_rfl
theorem ec_q15:ecRun pre g tp td hd (seqR (seqR (seqR ecB))) (ecS bg a n c cr tk i eN2 [] []) EcK EcT=some (.normal,ecS bg a n c cr tk (IntKind.i64.wrap (i+1)) eN2 [] []):=by kernel_rfl
theorem ec_q16:ecRun pre g tp td hd (ecR 4) (ecS bg a n c cr tk i eN2 [] []) [] [4]=some (.ret,ecV true eN2):=by kernel_rfl
theorem ec_res(b:Bool)(lo:Nat):resA Tryz.prog (ecV b lo) Tryz.f15.results.toList=some [.val (.bool b)]:=by kernel_rfl
theorem ec_clean(lo:Nat):okClean eN2 (ecS bg a n c cr tk i lo [] [])=true:=by kernel_rfl
theorem ec_len:(ecS bg a n c cr tk i eN2 [] []).tmps.length=60:=by kernel_rfl
end
end Go.Ab
namespace Go.Ab
open Go Go.Proofs
abbrev noOwn:Nat→Prop:=fun _=>False
abbrev noName:Nat→Option Nat:=fun _=>none
theorem calls_by{P:Program}{N:Nat}{f:FuncId}{fn:Func}{c:Code}(hfn:P.funcs[f]?=some fn)(hbody:fn.body=some c)(hN:fn.ntmps=N){args:List AV}{vals:List Value}(hle:args.length≤N)(w:World)(hv:Rels noName args vals){X:Value→Prop}
  (H:∀(a:Act) (Q:Exit→Act→World→Prop),StFits N w noOwn noName 4096 (4096+2^200) (startS N args []) a w→(∀(e:Ex) a' w' s' l v,(e=.normal∨e=.ret)→StFits N w noOwn noName 4096 (4096+2^200) s' a' w'→resA P s' fn.results.toList=some l→pack l=.val v→X v→Q e.to a' w')→c.wp P Q a w) :
  Calls P f (List.toArray vals) w fun e w'=>∃v,e=.returned v∧RowKit.Below w.heap.size w w'∧X v:=by
 subst hN
 have hlen:=Rels.length hv
 refine calls_of_wp hfn hbody ?_
 have hargsR:Rels noName (args++List.replicate (fn.ntmps-args.length) (.val undef)) (vals++List.replicate (fn.ntmps-args.length) undef):=Rels.append hv (Rels.undefs _ _)
 refine H _ _ ⟨noName,(startS fn.ntmps args []).u,⟨rfl,by simp;omega,fun t v hv=>?_,fun b e cs hb=>?_,fun b o hb=>?_,(fun _ _ _ h=>by cases h),(fun _ _ h=>by cases h),(fun _ _ _ _ _ h=>by cases h),(fun _ _ _ _ h=>by cases h),rfl,rfl,rfl,Nat.le_refl _,fun _ _ _=>rfl⟩,Sub.refl _,fun _ _ _=>rfl,Le.refl _,fun _ h _=>h,Nat.le_refl _,Nat.le_refl _⟩ ?_
 ·simp only[St.u,stU,startS,Option.map_eq_some_iff,Con.av.injEq]at hv
  obtain ⟨x,hx,rfl⟩:=hv
  obtain ⟨y,hy,hrel⟩:=Rels.get hargsR hx
  refine ⟨y,?_,hrel⟩
  rw[← hy]
  have:(List.toArray vals++Array.replicate (fn.ntmps-(List.toArray vals).size) undef)=List.toArray (vals++List.replicate (fn.ntmps-args.length) undef):=by
   apply Array.toList_inj.1;simp[hlen]
  simp only[this,List.getElem?_toArray]
 ·simp[St.u,stU,startS,numH,hget]at hb
 ·simp[St.u,stU,startS,numH,hget]at hb
 ·intro e a' w' s' l v he hst hr hp hX
  obtain ⟨σ,u,hf,hs,_⟩:=hst
  obtain ⟨x,hx,hrel⟩:=run_results (P:=P) (fn:=fn) hf hs hr
  rw[hp]at hrel
  simp only[Rel]at hrel
  subst hrel
  have hb:RowKit.Below w.heap.size w w':=⟨hf.os,hf.tape,hf.output,hf.grown,fun k hk=>hf.frame k hk fun h=>h⟩
  rcases he with rfl | rfl
  ·exact bodyPost_end hx hf.defers ⟨_,rfl,hb,hX⟩
  ·exact bodyPost_ret hx hf.defers ⟨_,rfl,hb,hX⟩
def lgSum(s:Int):List Rec→Bool
 | []=>true
 | r :: t=>bif decide (wI (s+(r.2.size:Int))>3000) then false else lgSum (wI (s+(r.2.size:Int))) t
def lightV(bg:Int)(rs:List Rec):Bool:=lgSum 0 rs&&(decide ((rs.length:Int)≤30)&&(decide (bg≥0)&&decide (bg≤157766400000)))
theorem lg_named(bg:Int)(a:Option Addr)(n c:Nat)(s i:Int)(lo:Nat):okClean lN1 {lgI bg a n c s i []with lo:=lo}=true:=by kernel_rfl
theorem lg_len(bg:Int)(a:Option Addr)(n c:Nat)(s i:Int):(lgI bg a n c s i []).tmps.length=35:=by kernel_rfl
theorem lg_resI(bg:Int)(a:Option Addr)(n c:Nat)(s i:Int)(lo:Nat):resA Tryz.prog {lgI bg a n c s i []with lo:=lo} Tryz.f14.results.toList=some [.val (.bool false)]:=by kernel_rfl
theorem lg_resV(b:Bool)(lo:Nat):resA Tryz.prog (lgV b lo) Tryz.f14.results.toList=some [.val (.bool b)]:=by kernel_rfl
abbrev LgFit(w:World)(s:St)(a:Act)(w':World):Prop:=StFits 35 w noOwn noName 4096 (4096+2^200) s a w'
theorem lg_g{c:Code}{s s1:St}{e:Ex}{ks ts:List Nat}(h:lgRun c s ks ts=some (e,s1)):RunsTo Tryz.prog 35 c s e s1:=gRun_runs (E:={gam:=[]}) GamOk.nil h
theorem StFits.let_go{N:Nat}{w0:World}{own:Nat→Prop}{lo0 hi0 lo:Nat}{s:St}{a:Act}{w:World}(h:StFits N w0 own noName lo0 hi0 s a w)(hok:okClean lo s=true)(hlo:lo0≤lo)(hhi:s.hi=hi0):StFits N w0 own noName lo0 hi0 {s with lo:=lo} a w:=by
 obtain ⟨σ,u,hf,hs,hn,hl,ho,h1,h2⟩:=h
 simp only[okClean,Bool.and_eq_true,List.all_eq_true,Nat.blt_eq]at hok
 obtain ⟨hct,hch⟩:=hok
 have hblk:∀b c,s.u (.blk b)=some c→cleanB lo hi0 b:=fun b c hb=>by
  have hm:=hget_mem (H:=s.heap) hb
  have :=(hch _ hm).1
  unfold cleanB
  omega
 have hcl:∀l c,s.u l=some c→CleanC lo hi0 c:=fun l c hl=>by
  cases l with
  | tmp t =>
   simp only[St.u,stU,Option.map_eq_some_iff]at hl
   obtain ⟨x,hx,rfl⟩:=hl
   intro b hb
   have :=hct x (List.mem_of_getElem? hx) b hb
   unfold cleanB
   omega
  | blk b =>
   have hm:=hget_mem (H:=s.heap) hl
   have :=(hch _ hm).2
   cases c with
   | av x=>intro d hd;have :=this d hd;unfold cleanB;omega
   | row e cs=>intro d hd;have :=this d hd;unfold cleanB;omega
   | obj o=>trivial
 have hw:Fits N w0 own σ s.u a w:=hf.sub hs
 refine ⟨cutσ σ lo hi0,s.u,?_,Sub.refl _,fun b hb1 hb2=>?_,fun b r hb=>(by cases hb),fun b hb1 hb2=>?_,hlo,h2⟩
 ·refine {hw with tmp:=fun t v hv=>?_,row:=fun b e cs hb=>?_,obj:=fun b o hb=>?_,inj:=fun b b' r h1 h2=>hw.inj b b' r (cutσ_some h1) (cutσ_some h2),bound:=fun b r hb=>hw.bound b r (cutσ_some hb),ownsR:=fun b e cs r hb hr=>hw.ownsR b e cs r hb (cutσ_some hr),ownsO:=fun b o r hb hr=>hw.ownsO b o r hb (cutσ_some hr)}
  ·obtain ⟨x,h3,h4⟩:=hw.tmp t v hv
   exact ⟨x,h3,Rel.cut v x (hcl _ _ hv) h4⟩
  ·obtain ⟨r,vs,h3,h4,h5⟩:=hw.row b e cs hb
   exact ⟨r,vs,by rw[cutσ_clean (hblk b _ hb)];exact h3,h4,Rels.cut cs vs (hcl _ _ hb) h5⟩
  ·obtain ⟨r,o',h3,h4,h5⟩:=hw.obj b o hb
   exact ⟨r,o',by rw[cutσ_clean (hblk b _ hb)];exact h3,h4,h5⟩
 ·have hb2:b<hi0:=by rw[← hhi];exact hb2
  unfold cutσ
  rw[if_pos ⟨hb1,hb2⟩]
 ·have :=ho b hb1 hb2
  unfold cutσ
  split
  ·rfl
  ·exact this
end Go.Ab
namespace Go.Ab
open Go Go.Proofs
theorem adds(a:Addr)(i j:Nat):(a.add i).add j=a.add (i+j):=by
 unfold Addr.add
 by_cases hi:i=0<;>by_cases hj:j=0<;>simp[hi,hj,Nat.add_assoc]
theorem lg_rounds{w:World}{bg:Int}{a:Option Addr}{c:Nat}{rs:List Rec}(hat:RecAt w a rs.length rs){Q:Exit→Act→World→Prop} :
  ∀(m i:Nat) (s:Int) (act:Act) (w':World),i+m=rs.length→(∀a' w2 s',lgSum s (rs.drop i)=true→LgFit w (lgI bg a rs.length c s' rs.length []) a' w2→Q (.exit 0) a' w2) →
   (∀a' w2 s' i' lo,lgSum s (rs.drop i)=false→LgFit w {lgI bg a rs.length c s' i' []with lo:=lo} a' w2→Q .ret a' w2)→LgFit w (lgI bg a rs.length c s i []) act w' →
   Code.rounds Tryz.prog (.seq (seqL lgB) (.seq (seqL (seqR lgB)) (.seq (.block 1 (.seq (.region 4 lgO4 false) (seqR lgB1))) (seqR (seqR (seqR lgB)))))) Q (m+1) act w':=by
 intro m
 induction m with
 | zero =>
  intro i s act w' hi hQ _ hst
  have hi':i=rs.length:=by omega
  subst hi'
  rw[rounds_succ]
  refine wp_seq (lg_g (lg_q3 bg s rs.length a rs.length c) _ _ _ _ _ act w' hst _ fun a1 w1 h1=>?_)
  rw[decide_eq_false (by omega)]at h1
  refine wp_seq (lg_g (lg_qc bg s rs.length a rs.length c false) _ _ _ _ _ a1 w1 h1 _ fun a2 w2 h2=>?_)
  exact hQ a2 w2 s (by rw[List.drop_of_length_le (Nat.le_refl _)];rfl) h2
 | succ m ih =>
  intro i s act w' hi hQ hR hst
  rw[rounds_succ]
  have hlt:i<rs.length:=by omega
  refine wp_seq (lg_g (lg_q3 bg s i a rs.length c) _ _ _ _ _ act w' hst _ fun a1 w1 h1=>?_)
  rw[decide_eq_true (by omega)]at h1
  refine wp_seq (lg_g (lg_qc bg s i a rs.length c true) _ _ _ _ _ a1 w1 h1 _ fun a2 w2 h2=>?_)
  refine wp_seq (wp_block (wp_seq (wp_region ?_)))
  rw[lg4_n]
  have hat2:RecAt w2 a rs.length rs:=hat.later (by obtain ⟨_,_,hf,_⟩:=h2;exact hf.grown) fun k hk=>h2.far hk fun h=>h
  obtain ⟨ad,rfl,_,hc0,hc1⟩:=hat2.lies i hlt
  obtain ⟨ti,hti,hs⟩:=info70
  refine index_fit lg4_0 (by omega) (lg_len ..) v22s hti h2 (b:=ad) (len:=rs.length) (cap:=c) (i:=i) (ik:=.i64) (h2.eval (t:=7) rfl) (h2.eval (t:=9) rfl) hlt _ fun a3 h3=>?_
  have ead:∀k,(ad.add (i*ti.size)).add k=ad.add (i*2+k):=by
   intro k
   rw[hs]
   exact adds ad (i*2) k
  refine load_fit lg4_1 (by omega) (by rw[List.length_set];exact lg_len ..) h3 (b:=ad.add (i*ti.size)) (h3.eval (t:=11) (by rw[List.getElem?_set_self (by rw[lg_len];omega)])) (run_rec (k:=rs[i].1) (d:=rs[i].2) (by rw[ead];exact hc0) (by rw[ead];exact hc1)) _ fun a4 h4=>?_
  refine ops_fit (callN_ok (E:={gam:=[]}) GamOk.nil 4 _) [4096,lN1] _ (lg_q4 bg s i rs[i].1 (some ad) (ad.add (i*ti.size)) rs.length c rs[i].2) (fun _ _ hj=>drop_at hj) h4 [] fun a5 w5 h5=>?_
  change Code.wp Tryz.prog (seqR lgB1) _ a5 w5
  have hd:rs.drop i=rs[i] :: rs.drop (i+1):=List.drop_eq_getElem_cons hlt
  have hq:=lg_q5 bg s i rs[i].1 (some ad) rs.length c rs[i].2
  rw[hd]at hQ hR
  cases hbig:decide (wI (s+(rs[i].2.size:Int))>3000) with
  | true =>
   rw[hbig,cond_true]at hq
   refine lg_g hq _ _ _ _ _ a5 w5 h5 _ fun a6 w6 h6=>?_
   exact hR a6 w6 _ _ _ (by unfold lgSum;rw[hbig];rfl) h6
  | false =>
   rw[hbig,cond_false]at hq
   refine lg_g hq _ _ _ _ _ a5 w5 h5 _ fun a6 w6 h6=>?_
   simp only[Ex.to,Exit.inBlock]
   have h7:=h6.let_go (lo:=lN1) (lg_named ..) (by show 4096≤lN1;decide +kernel) rfl
   have h8:LgFit w (lgI bg (some ad) rs.length c (wI (s+(rs[i].2.size:Int))) i []) a6 w6:=h7
   refine lg_g (lg_q8 bg _ i (some ad) rs.length c) _ _ _ _ _ a6 w6 h8 _ fun a7 w7 h9=>?_
   have hw:wI ((i:Int)+1)=((i+1:Nat):Int):=by have :=hat.small;unfold wI;rw[wrapM];omega
   rw[hw]at h9
   have hsum:lgSum s (rs[i] :: rs.drop (i+1))=lgSum (wI (s+(rs[i].2.size:Int))) (rs.drop (i+1)):=by
    show (bif decide (wI (s+(rs[i].2.size:Int))>3000) then false else lgSum (wI (s+(rs[i].2.size:Int))) (rs.drop (i+1)))=_
    rw[hbig]
    rfl
   rw[hsum]at hQ hR
   exact ih (i+1) _ a7 w7 (by omega) hQ hR h9
theorem light_calls(bg:Int)(a:Option Addr)(c:Nat)(rs:List Rec)(w:World)(hat:RecAt w a rs.length rs) :
  Calls Tryz.prog 14 #[.agg #[.int .i64 bg,.slice a rs.length c]] w fun e w'=>∃v,e=.returned v∧RowKit.Below w.heap.size w w'∧v=.bool (lightV bg rs):=by
 refine calls_by (vals:=[.agg #[.int .i64 bg,.slice a rs.length c]]) (args:=[.val (.agg #[.int .i64 bg,.slice a rs.length c])]) f14_is lg_is f14_N (by show 1≤35;omega) w (by simp only[Rels,Rel];exact ⟨_,_,rfl,rfl,rfl⟩) fun act Q hst hQ=>?_
 refine wp_seq (lg_g (lg_q0 bg a rs.length c) _ _ _ _ _ act w hst _ fun a1 w1 h1=>?_)
 refine wp_seq (lg_g (lg_q1 bg a rs.length c) _ _ _ _ _ a1 w1 h1 _ fun a2 w2 h2=>?_)
 refine wp_seq (wp_seq (lg_g (lg_q2 bg a rs.length c) _ _ _ _ _ a2 w2 h2 _ fun a3 w3 h3=>?_))
 refine wp_block (wp_loop_rounds (rs.length+1) (lg_rounds hat rs.length 0 0 a3 w3 (by omega) (fun a4 w4 s' hs h4=>?_) (fun a4 w4 s' i' lo hs h4=>?_) h3))
 ·simp only[Exit.inBlock,if_true]
  rw[List.drop_zero]at hs
  have hq:=lg_q9 bg s' rs.length a rs.length c
  have e:lightV bg rs=(decide ((rs.length:Int)≤30)&&(decide (bg≥0)&&decide (bg≤157766400000))):=by unfold lightV;rw[hs];rfl
  have go:lgRun (lgR 3) (lgI bg a rs.length c s' rs.length []) [] [2]=some (.ret,lgV (lightV bg rs) lN1):=by
   rw[hq,e]
   cases decide ((rs.length:Int)≤30)
   ·rfl
   ·cases decide (bg≥0)<;>rfl
  refine lg_g go _ _ _ _ _ a4 w4 h4 _ fun a5 w5 h5=>?_
  exact hQ .ret a5 w5 _ _ _ (.inr rfl) h5 (lg_resV ..) rfl rfl
 ·rw[List.drop_zero]at hs
  have e:lightV bg rs=false:=by unfold lightV;rw[hs];rfl
  exact hQ .ret a4 w4 _ _ _ (.inr rfl) h4 (lg_resI ..) rfl (by rw[e])
end Go.Ab
namespace Go.Ab
open Go Go.Proofs
def eachV(g:StpA→Two Crf ByteArray)(td:ByteArray×Unit→Two Tl Bool)(hd:HoldA→Bool)(cr:Crf)(tk:Int):List Rec→Bool
 | []=>true
 | r :: t =>
  bif (g (cr,laterV tk r.1,r.2,())).b.toList==(⟨#[]⟩:ByteArray).toList then bif !crfK (g (cr,laterV tk r.1,r.2,())).a cr then false else eachV g td hd cr (laterV tk r.1) t
  else bif !(td ((g (cr,laterV tk r.1,r.2,())).b,())).b then false else bif !hd (cr,(g (cr,laterV tk r.1,r.2,())).a,(td ((g (cr,laterV tk r.1,r.2,())).b,())).a,r.2,()) then false else eachV g td hd (g (cr,laterV tk r.1,r.2,())).a (laterV tk r.1) t
def EachOk(pre:StpA→Bool)(g:StpA→Two Crf ByteArray)(tp:ByteArray×Unit→Bool)(cr:Crf)(tk:Int):List Rec→Prop
 | []=>True
 | r :: t=>pre (cr,laterV tk r.1,r.2,())=true ∧
  (((g (cr,laterV tk r.1,r.2,())).b.toList==(⟨#[]⟩:ByteArray).toList)=true→EachOk pre g tp cr (laterV tk r.1) t) ∧
  (((g (cr,laterV tk r.1,r.2,())).b.toList==(⟨#[]⟩:ByteArray).toList)=false→tp ((g (cr,laterV tk r.1,r.2,())).b,())=true∧EachOk pre g tp (g (cr,laterV tk r.1,r.2,())).a (laterV tk r.1) t)
theorem ec_resS(bg:Int)(a:Option Addr)(n c:Nat)(cr:Crf)(tk i:Int)(lo:Nat)(H:Hp):resA Tryz.prog (ecS bg a n c cr tk i lo [] H) Tryz.f15.results.toList=some [.val (.bool false)]:=by kernel_rfl
theorem ec_resX(bg:Int)(a:Option Addr)(n c:Nat)(cr:Crf)(tk i:Int)(lo:Nat)(x y:AV)(H:Hp):resA Tryz.prog (ecS bg a n c cr tk i lo [(8,x),(9,y)] H) Tryz.f15.results.toList=some [.val (.bool false)]:=by kernel_rfl
abbrev EcFit(w:World)(s:St)(a:Act)(w':World):Prop:=StFits 60 w noOwn noName 4096 (4096+2^200) s a w'
section
variable {pre:StpA→Bool} {g:StpA→Two Crf ByteArray} {tp:ByteArray×Unit→Bool} {td:ByteArray×Unit→Two Tl Bool} {hd:HoldA→Bool} (hG:GamOk Tryz.prog (ecGam pre g tp td hd))
include hG
theorem ec_g{c:Code}{s s1:St}{e:Ex}{ks ts:List Nat}(h:ecRun pre g tp td hd c s ks ts=some (e,s1)):RunsTo Tryz.prog 60 c s e s1:=gRun_runs (E:={gam:=ecGam pre g tp td hd}) hG h
theorem ec_body{w:World}{bg tk:Int}{a:Option Addr}{n c i:Nat}{cr:Crf}{r:Rec}{t:List Rec}(hok:EachOk pre g tp cr tk (r :: t)){Q:Exit→Act→World→Prop}{act:Act}{w':World}(hst:EcFit w (ecF bg a n c cr tk i r.1 r.2) act w')
  (hN:∀a' w2 cr' e,(e=Ex.normal∨e=.exit 1)→EachOk pre g tp cr' (laterV tk r.1) t→eachV g td hd cr tk (r :: t)=eachV g td hd cr' (laterV tk r.1) t→EcFit w (ecS bg a n c cr' (laterV tk r.1) i eN2 [] []) a' w2→Q e.to a' w2)
  (hR:∀a' w2 s',eachV g td hd cr tk (r :: t)=false→EcFit w s' a' w2→resA Tryz.prog s' Tryz.f15.results.toList=some [.val (.bool false)]→Q .ret a' w2) :
  (Code.seq (seqL (ecT 1)) (.seq (seqL (ecT 2)) (.seq (seqL (ecT 3)) (.seq (seqL (ecT 4)) (.seq (seqL (ecT 5)) (ecT 6)))))).wp Tryz.prog Q act w':=by
 obtain ⟨hp,he1,he2⟩:=hok
 refine wp_seq (ec_g hG (ec_q6 pre g tp td hd bg tk i r.1 a n c cr r.2) _ _ _ _ _ act w' hst _ fun a1 w1 h1=>?_)
 have q7:=ec_q7 pre g tp td hd bg (laterV tk r.1) i r.1 a n c cr r.2
 rw[hp,cond_true]at q7
 refine wp_seq (ec_g hG q7 _ _ _ _ _ a1 w1 h1 _ fun a2 w2 h2=>?_)
 have hun:eachV g td hd cr tk (r :: t)=bif (g (cr,laterV tk r.1,r.2,())).b.toList==(⟨#[]⟩:ByteArray).toList then bif !crfK (g (cr,laterV tk r.1,r.2,())).a cr then false else eachV g td hd cr (laterV tk r.1) t
  else bif !(td ((g (cr,laterV tk r.1,r.2,())).b,())).b then false else bif !hd (cr,(g (cr,laterV tk r.1,r.2,())).a,(td ((g (cr,laterV tk r.1,r.2,())).b,())).a,r.2,()) then false else eachV g td hd (g (cr,laterV tk r.1,r.2,())).a (laterV tk r.1) t:=rfl
 generalize hy:g (cr,laterV tk r.1,r.2,())=y at *
 obtain ⟨nx,s⟩:=y
 dsimp only at he1 he2 hun h2
 have q8e:=ec_q8e pre g tp td hd bg (laterV tk r.1) i r.1 a n c cr nx r.2 s
 have q8n:=ec_q8n pre g tp td hd bg (laterV tk r.1) i r.1 a n c cr nx r.2 s
 have low:4096≤eN2:=by decide +kernel
 cases hs:s.toList==(⟨#[]⟩:ByteArray).toList with
 | true =>
  rw[hs,cond_true]at q8e hun
  cases hk:crfK nx cr with
  | false =>
   rw[hk]at q8e hun
   refine wp_seq (ec_g hG q8e _ _ _ _ _ a2 w2 h2 _ fun a3 w3 h3=>?_)
   exact hR a3 w3 _ (by rw[hun];rfl) h3 (ec_resS ..)
  | true =>
   rw[hk]at q8e hun
   refine wp_seq (ec_g hG q8e _ _ _ _ _ a2 w2 h2 _ fun a3 w3 h3=>?_)
   have h4:=h3.let_go (lo:=eN2) (ec_clean ..) low rfl
   exact hN a3 w3 cr (.exit 1) (.inr rfl) (he1 hs) (by rw[hun];rfl) h4
 | false =>
  rw[hs,cond_false]at q8n hun
  obtain ⟨ht,hok2⟩:=he2 hs
  refine wp_seq (ec_g hG q8n _ _ _ _ _ a2 w2 h2 _ fun a3 w3 h3=>?_)
  have q9:=ec_q9 pre g tp td hd bg (laterV tk r.1) i r.1 a n c cr nx r.2 s
  rw[ht,cond_true]at q9
  refine wp_seq (ec_g hG q9 _ _ _ _ _ a3 w3 h3 _ fun a4 w4 h4=>?_)
  have q10:=ec_q10 pre g tp td hd bg (laterV tk r.1) i r.1 a n c cr nx (td (s,())).b (td (s,())).a r.2
  cases hb:(td (s,())).b with
  | false =>
   rw[hb]at q10 hun h4
   refine wp_seq (ec_g hG q10 _ _ _ _ _ a4 w4 h4 _ fun a5 w5 h5=>?_)
   exact hR a5 w5 _ (by rw[hun];rfl) h5 (ec_resX ..)
  | true =>
   rw[hb]at q10 hun h4
   rw[Bool.not_true,cond_false]at q10 hun
   cases hh:hd (cr,nx,(td (s,())).a,r.2,()) with
   | false =>
    rw[hh]at q10 hun
    refine wp_seq (ec_g hG q10 _ _ _ _ _ a4 w4 h4 _ fun a5 w5 h5=>?_)
    exact hR a5 w5 _ (by rw[hun];rfl) h5 (ec_resX ..)
   | true =>
    rw[hh]at q10 hun
    refine wp_seq (ec_g hG q10 _ _ _ _ _ a4 w4 h4 _ fun a5 w5 h5=>?_)
    refine ec_g hG (ec_q11 pre g tp td hd bg (laterV tk r.1) i r.1 a n c cr nx r.2) _ _ _ _ _ a5 w5 h5 _ fun a6 w6 h6=>?_
    have h7:=h6.let_go (lo:=eN2) (ec_clean ..) low rfl
    exact hN a6 w6 nx .normal (.inl rfl) hok2 (by rw[hun];rfl) h7
theorem ec_rounds{w:World}{bg:Int}{a:Option Addr}{c:Nat}{rs:List Rec}(hat:RecAt w a rs.length rs){Q:Exit→Act→World→Prop} :
  ∀(m i:Nat) (cr:Crf) (tk:Int) (act:Act) (w':World),i+m=rs.length→EachOk pre g tp cr tk (rs.drop i)→(∀a' w2 cr' tk',eachV g td hd cr tk (rs.drop i)=true→EcFit w (ecS bg a rs.length c cr' tk' rs.length eN2 [] []) a' w2→Q (.exit 0) a' w2) →
   (∀a' w2 s',eachV g td hd cr tk (rs.drop i)=false→EcFit w s' a' w2→resA Tryz.prog s' Tryz.f15.results.toList=some [.val (.bool false)]→Q .ret a' w2)→EcFit w (ecS bg a rs.length c cr tk i eN2 [] []) act w' →
   Code.rounds Tryz.prog (.seq (seqL ecB) (.seq (seqL (seqR ecB)) (.seq (.block 1 (.seq (.region 5 ecO5 false) (.seq (seqL (ecT 1)) (.seq (seqL (ecT 2)) (.seq (seqL (ecT 3)) (.seq (seqL (ecT 4)) (.seq (seqL (ecT 5)) (ecT 6)))))))) (seqR (seqR (seqR ecB)))))) Q (m+1) act w':=by
 intro m
 induction m with
 | zero =>
  intro i cr tk act w' hi _ hQ _ hst
  have hi':i=rs.length:=by omega
  subst hi'
  rw[rounds_succ]
  refine wp_seq (ec_g hG (ec_q4 pre g tp td hd bg tk rs.length a rs.length c cr) _ _ _ _ _ act w' hst _ fun a1 w1 h1=>?_)
  rw[decide_eq_false (by omega)]at h1
  refine wp_seq (ec_g hG (ec_qc pre g tp td hd bg tk rs.length a rs.length c cr false) _ _ _ _ _ a1 w1 h1 _ fun a2 w2 h2=>?_)
  exact hQ a2 w2 cr tk (by rw[List.drop_of_length_le (Nat.le_refl _)];rfl) h2
 | succ m ih =>
  intro i cr tk act w' hi hok hQ hR hst
  rw[rounds_succ]
  have hlt:i<rs.length:=by omega
  refine wp_seq (ec_g hG (ec_q4 pre g tp td hd bg tk i a rs.length c cr) _ _ _ _ _ act w' hst _ fun a1 w1 h1=>?_)
  rw[decide_eq_true (by omega)]at h1
  refine wp_seq (ec_g hG (ec_qc pre g tp td hd bg tk i a rs.length c cr true) _ _ _ _ _ a1 w1 h1 _ fun a2 w2 h2=>?_)
  refine wp_seq (wp_block (wp_seq (wp_region ?_)))
  rw[ec5_n]
  have hat2:RecAt w2 a rs.length rs:=hat.later (by obtain ⟨_,_,hf,_⟩:=h2;exact hf.grown) fun k hk=>h2.far hk fun h=>h
  obtain ⟨ad,rfl,_,hc0,hc1⟩:=hat2.lies i hlt
  obtain ⟨ti,hti,hs⟩:=info70
  refine index_fit ec5_0 (by omega) (ec_len ..) v22s hti h2 (b:=ad) (len:=rs.length) (cap:=c) (i:=i) (ik:=.i64) (h2.eval (t:=16) rfl) (h2.eval (t:=18) rfl) hlt _ fun a3 h3=>?_
  have ead:∀k,(ad.add (i*ti.size)).add k=ad.add (i*2+k):=by
   intro k
   rw[hs]
   exact adds ad (i*2) k
  refine load_fit ec5_1 (by omega) (by rw[List.length_set];exact ec_len ..) h3 (b:=ad.add (i*ti.size)) (h3.eval (t:=20) (by rw[List.getElem?_set_self (by rw[ec_len];omega)])) (run_rec (k:=rs[i].1) (d:=rs[i].2) (by rw[ead];exact hc0) (by rw[ead];exact hc1)) _ fun a4 h4=>?_
  refine ops_fit (callN_ok (E:={gam:=ecGam pre g tp td hd}) hG 4 _) [4096,eN1,eN2] _ (ec_q5 pre g tp td hd bg tk i rs[i].1 (some ad) (ad.add (i*ti.size)) rs.length c cr rs[i].2) (fun _ _ hj=>drop_at hj) h4 [] fun a5 w5 h5=>?_
  have hdr:rs.drop i=rs[i] :: rs.drop (i+1):=List.drop_eq_getElem_cons hlt
  rw[hdr]at hok hQ hR
  refine ec_body hG hok h5 (fun a6 w6 cr' e he hok2 heq h6=>?_) fun a6 w6 s' hf h6 hr=>hR a6 w6 s' hf h6 hr
  rw[heq]at hQ hR
  have hw:IntKind.i64.wrap ((i:Int)+1)=((i+1:Nat):Int):=by have :=hat.small;rw[wrapM];omega
  have next:(seqR (seqR (seqR ecB))).wp Tryz.prog (Exit.then (Code.rounds Tryz.prog (.seq (seqL ecB) (.seq (seqL (seqR ecB)) (.seq (.block 1 (.seq (.region 5 ecO5 false) (.seq (seqL (ecT 1)) (.seq (seqL (ecT 2)) (.seq (seqL (ecT 3)) (.seq (seqL (ecT 4)) (.seq (seqL (ecT 5)) (ecT 6)))))))) (seqR (seqR (seqR ecB)))))) Q (m+1)) Q) a6 w6:=by
   refine ec_g hG (ec_q15 pre g tp td hd bg (laterV tk rs[i].1) i (some ad) rs.length c cr') _ _ _ _ _ a6 w6 h6 _ fun a7 w7 h9=>?_
   rw[hw]at h9
   exact ih (i+1) cr' _ a7 w7 (by omega) hok2 hQ hR h9
  rcases he with rfl | rfl
  ·simp only[Ex.to,Exit.inBlock]
   exact next
  ·simp only[Ex.to,Exit.inBlock,if_true]
   exact next
theorem each_calls(bg:Int)(a:Option Addr)(c:Nat)(rs:List Rec)(w:World)(hat:RecAt w a rs.length rs)(hok:EachOk pre g tp crf0 bg rs) :
  Calls Tryz.prog 15 #[.agg #[.int .i64 bg,.slice a rs.length c],.func (.func 19) #[] #[]] w fun e w'=>∃v,e=.returned v∧RowKit.Below w.heap.size w w'∧v=.bool (eachV g td hd crf0 bg rs):=by
 refine calls_by (vals:=[.agg #[.int .i64 bg,.slice a rs.length c],.func (.func 19) #[] #[]]) (args:=[.val (.agg #[.int .i64 bg,.slice a rs.length c]),.func 19 [] []]) f15_is ec_is f15_N (by show 2≤60;omega) w (by simp only[Rels,Rel];exact ⟨_,_,rfl,rfl,_,_,rfl,⟨_,_,rfl,rfl,rfl⟩,rfl⟩) fun act Q hst hQ=>?_
 refine wp_seq (ec_g hG (ec_q0 pre g tp td hd bg a rs.length c) _ _ _ _ _ act w hst _ fun a1 w1 h1=>?_)
 refine wp_seq (ec_g hG (ec_q1 pre g tp td hd bg a rs.length c) _ _ _ _ _ a1 w1 h1 _ fun a2 w2 h2=>?_)
 refine wp_seq (ec_g hG (ec_q2 pre g tp td hd bg a rs.length c) _ _ _ _ _ a2 w2 h2 _ fun a3 w3 h3=>?_)
 refine wp_seq (wp_seq (ec_g hG (ec_q3 pre g tp td hd bg a rs.length c) _ _ _ _ _ a3 w3 h3 _ fun a4 w4 h4=>?_))
 refine wp_block (wp_loop_rounds (rs.length+1) (ec_rounds hG hat rs.length 0 crf0 bg a4 w4 (by omega) (by rw[List.drop_zero];exact hok) (fun a5 w5 cr' tk' ht h5=>?_) (fun a5 w5 s' hf h5 hr=>?_) h4))
 ·simp only[Exit.inBlock,if_true]
  rw[List.drop_zero]at ht
  refine ec_g hG (ec_q16 pre g tp td hd bg tk' rs.length a rs.length c cr') _ _ _ _ _ a5 w5 h5 _ fun a6 w6 h6=>?_
  exact hQ .ret a6 w6 _ _ _ (.inr rfl) h6 (ec_res ..) rfl (by rw[ht])
 ·rw[List.drop_zero]at hf
  exact hQ .ret a5 w5 _ _ _ (.inr rfl) h5 hr rfl (by rw[hf])
end
end Go.Ab
namespace Go.Ab
open Go Go.Proofs
def andV(a b:Int):Int:=IntKind.i64.wrap ((BitVec.ofInt IntKind.i64.bits a &&& BitVec.ofInt IntKind.i64.bits b).toNat:Int)
def yesB(b:Bool):Option (AV×List Con):=some (.val (.bool b),[])
def gapsE(b:Crf):Bool:=bif b.plan.mode==1 then bif decide (andV b.plan.faults 1>0) then true else b.plan.mode==3 else b.plan.mode==3
def gapsV(p:HoldA):Bool:=bif p.1.plan.mode != 2 then true else bif decide (IntKind.i64.wrap (p.2.1.tk-p.1.tk)≥10) then bif decide (IntKind.i64.wrap (p.2.1.tk-p.1.tk)≤10000) then true else gapsE p.2.1 else gapsE p.2.1
theorem late_no{c:Crf}{tk:Int}(h:lateX c ST.rt tk=false):isTick tk=true∧(c.on=true→c.tk<tk):=by
 unfold lateX at h
 have hr:ST.rt (tk,())=isTick tk:=rfl
 rw[hr]at h
 cases ht:isTick tk with
 | false=>rw[ht]at h;cases h
 | true =>
  rw[ht,Bool.not_true,cond_false]at h
  refine ⟨rfl,fun hon=>?_⟩
  rw[hon,cond_true]at h
  have :=of_decide_eq_false h
  omega
theorem told_neC(x:CX):((cstT ST x).toList==(⟨#[]⟩:ByteArray).toList)=false:=by
 obtain ⟨l,h⟩:=told_some x
 rw[h,ByteArray.toList_eq,ByteArray.toList_eq,data_bsL]
 rfl
theorem each_holds{hd:HoldA→Bool}(hh:∀(c:Crf) (tk:Int) (b:ByteArray),CIn c→lateX c ST.rt tk=false→hd (c,(endX ST tk (cstH ST c tk b)).2.1,tellX (endX ST tk (cstH ST c tk b)),b,())=true) :
  ∀(rs:List Rec) (c:Crf) (tk:Int),CIn c→c.left.size+(rs.map fun r=>r.2.size).sum≤1099511627776→EachOk craftPre craftV toldPre c tk rs∧eachV craftV toldV hd c tk rs=true
 | [],_,_,_,_=>⟨trivial,rfl⟩
 | r :: t,c,tk,hc,hs=>by
  simp only[List.map_cons,List.sum_cons]at hs
  cases hl:lateX c ST.rt (laterV tk r.1) with
  | true =>
   have e:craftV (c,laterV tk r.1,r.2,())=⟨c,⟨#[]⟩⟩:=by unfold craftV stepO;dsimp only;rw[hl];rfl
   have hp:craftPre (c,laterV tk r.1,r.2,())=true:=by unfold craftPre stepPreO;dsimp only;rw[hl];rfl
   obtain ⟨i1,i2⟩:=each_holds hh t c (laterV tk r.1) hc (by omega)
   have em:((⟨#[]⟩:ByteArray).toList==(⟨#[]⟩:ByteArray).toList)=true:=by simp
   constructor
   ·unfold EachOk
    rw[e]
    exact ⟨hp,fun _=>i1,fun h=>(by rw[em]at h;cases h)⟩
   ·unfold eachV
    rw[e]
    dsimp only
    rw[em,crfK_self,cond_true]
    exact i2
  | false =>
   obtain ⟨ht,hon⟩:=late_no hl
   generalize hk:laterV tk r.1=k at *
   have hx:XIn k (gapV c k) (gapV c k==0) c.plan.mode (c.left.size+r.2.size) (cstH ST c k r.2):=(hc.start k (by omega)).heard r.2 (Nat.le_refl _)
   have hi:=end_in hx ht
   have hleft:=end_left hx
   have htk:(endX ST k (cstH ST c k r.2)).1.tk=k:=step_tk hx k
   obtain ⟨b1,b2⟩:=told_back (x:=endX ST k (cstH ST c k r.2)) hi (by rw[htk];exact ht)
   have e:craftV (c,k,r.2,())=⟨(endX ST k (cstH ST c k r.2)).2.1,cstT ST (endX ST k (cstH ST c k r.2))⟩:=by unfold craftV stepO;dsimp only;rw[hl];rfl
   have hp:craftPre (c,k,r.2,())=true:=by
    unfold craftPre stepPreO
    dsimp only
    rw[hl,cond_false]
    have h1:ST.hp (stp1 c k,c,rds0) (r.2,())=true:=decide_eq_true (by show c.left.size+r.2.size≤_;omega)
    rw[h1,hx.driftOk]
    rfl
   have hne:=told_neC (endX ST k (cstH ST c k r.2))
   obtain ⟨i1,i2⟩:=each_holds hh t (endX ST k (cstH ST c k r.2)).2.1 k hi (by omega)
   constructor
   ·unfold EachOk
    rw[hk,e]
    exact ⟨hp,fun h=>(by rw[hne]at h;cases h),fun _=>⟨b1,i1⟩⟩
   ·unfold eachV
    rw[hk,e]
    dsimp only
    rw[hne,cond_false,b2]
    dsimp only
    rw[hh c k r.2 hc hl]
    exact i2
end Go.Ab
namespace Go.Ab
open Go Go.Proofs
theorem ratio3_spec{a b c:Int}(hc:0<c):2*(a*b)-c≤2*c*ratio3 a b c∧2*c*ratio3 a b c≤2*(a*b)+c:=by
 have hcc:iabs c=c:=iabs_of_nonneg (by omega)
 have hc0:decide (c<0)=false:=by simp;omega
 unfold ratio3 neg3
 rw[hcc,hc0,Bool.xor_false]
 obtain ⟨h1,h2⟩:=rnd_spec (N:=iabs a*iabs b) hc
 have hneg:∀r:Int,2*c*(0-r)=- (2*c*r):=fun r=>by rw[Int.zero_sub,Int.mul_neg]
 have ia:∀x:Int,x<0→iabs x=-x:=fun x h=>by unfold iabs;rw[decide_eq_true h,cond_true,Int.zero_sub]
 by_cases ha:a<0
 ·by_cases hb:b<0
  ·rw[ia a ha,ia b hb,Int.neg_mul_neg]at h1 h2 ⊢
   rw[decide_eq_true ha,decide_eq_true hb]
   exact ⟨h1,h2⟩
  ·rw[ia a ha,iabs_of_nonneg (a:=b) (by omega),Int.neg_mul]at h1 h2 ⊢
   rw[decide_eq_true ha,decide_eq_false hb]
   show 2*(a*b)-c≤2*c*(0-rnd (-(a*b)) c)∧2*c*(0-rnd (-(a*b)) c)≤2*(a*b)+c
   rw[hneg]
   omega
 ·by_cases hb:b<0
  ·rw[iabs_of_nonneg (a:=a) (by omega),ia b hb,Int.mul_neg]at h1 h2 ⊢
   rw[decide_eq_false ha,decide_eq_true hb]
   show 2*(a*b)-c≤2*c*(0-rnd (-(a*b)) c)∧2*c*(0-rnd (-(a*b)) c)≤2*(a*b)+c
   rw[hneg]
   omega
  ·rw[iabs_of_nonneg (a:=a) (by omega),iabs_of_nonneg (a:=b) (by omega)]at h1 h2 ⊢
   rw[decide_eq_false ha,decide_eq_false hb]
   exact ⟨h1,h2⟩
theorem fratio_val{a b c v:Int}(h:fratio false a b c=(v,false)):v=ratio3 a b c∧c≠0:=by
 unfold fratio at h
 generalize hc:(iabs c==0||decide (iabs a*iabs b / iabs c>4611686018427387904)||decide (rnd (iabs a*iabs b) (iabs c)>4611686018427387904))=t at h
 cases t with
 | true=>simp at h
 | false =>
  simp only[Bool.or_eq_false_iff,beq_eq_false_iff_ne]at hc
  rw[cond_false,Prod.mk.injEq]at h
  refine ⟨h.1.symm,fun h0=>hc.1.1 ?_⟩
  rw[h0];rfl
theorem fmul_of{a b v:Int}(h:fmul false a b=(v,false)):v=ratio3 a b 1099511627776∧num a=true∧num b=true:=by
 unfold fmul at h
 cases hb:(false||!nums? [a,b]) with
 | true=>rw[hb]at h;simp at h
 | false =>
  obtain ⟨_,ha,hb'⟩:=nums2 hb
  rw[hb,cond_false]at h
  exact ⟨(fratio_val h).1,ha,hb'⟩
theorem fdiv_of{a b v:Int}(h:fdiv false a b=(v,false)):v=ratio3 a 1099511627776 b∧num a=true∧num b=true∧b≠0:=by
 unfold fdiv at h
 cases hb:(false||!nums? [a,b]) with
 | true=>rw[hb]at h;simp at h
 | false =>
  obtain ⟨_,ha,hb'⟩:=nums2 hb
  rw[hb,cond_false]at h
  exact ⟨(fratio_val h).1,ha,hb',(fratio_val h).2⟩
theorem fpart_of{a p q v:Int}(h:fpart false a p q=(v,false)):v=ratio3 a p q∧num a=true∧num p=true∧num q=true∧q≠0:=by
 unfold fpart at h
 cases hb:(false||!nums? [a,p,q]) with
 | true=>rw[hb]at h;simp at h
 | false =>
  obtain ⟨_,ha,hb',hq⟩:=nums3 hb
  rw[hb,cond_false]at h
  exact ⟨(fratio_val h).1,ha,hb',hq,(fratio_val h).2⟩
theorem fmul_spec{a b v:Int}(h:fmul false a b=(v,false)):2*(a*b)-1099511627776≤2199023255552*v∧2199023255552*v≤2*(a*b)+1099511627776:=by
 have :=ratio3_spec (a:=a) (b:=b) (c:=1099511627776) (by omega)
 rw[← (fmul_of h).1]at this
 exact this
theorem fdiv_spec{a b v:Int}(hb:0<b)(h:fdiv false a b=(v,false)):2199023255552*a-b≤2*b*v∧2*b*v≤2199023255552*a+b:=by
 have :=ratio3_spec (a:=a) (b:=1099511627776) (c:=b) hb
 rw[← (fdiv_of h).1]at this
 omega
theorem fadd_of{a b v:Int}(h:fadd false a b=(v,false)):v=a+b∧num a=true∧num b=true∧num v=true:=by
 unfold fadd at h
 generalize hc:(!false&&(num a&&(num b&&num (a+b))))=t at h
 cases t with
 | true =>
  simp only[Bool.not_false,Bool.true_and,Bool.and_eq_true]at hc
  rw[cond_true,Prod.mk.injEq]at h
  obtain ⟨rfl,_⟩:=h
  exact ⟨rfl,hc.1,hc.2.1,hc.2.2⟩
 | false=>simp at h
end Go.Ab
namespace Go.Ab
open Go Go.Proofs
def dpZ(m md:Int)(K:Option (AV×List Con)):Option (AV×List Con):=bif m != 0 then (bif md != 0 then yesB false else K) else K
def dpK(m r md:Int)(K:Option (AV×List Con)):Option (AV×List Con) :=
 bif decide (m>2000) then yesB false else bif decide (m < -2000) then yesB false else
  bif decide (m>0) then (bif decide (r>0) then yesB false else (bif decide (m<0) then (bif decide (r<0) then yesB false else dpZ m md K) else dpZ m md K)) else (bif decide (m<0) then (bif decide (r<0) then yesB false else dpZ m md K) else dpZ m md K)
theorem dips19(a b:Crf)(t:Tl)(s:ByteArray):fnSum Tryz.prog {gam:=[]} [] 20 19 [.val (Cod.enc a),.val (Cod.enc b),.val (Cod.enc t),.val (.string s)] [] =
  dpK t.d.x b.drift.rate.x b.plan.mode (dpK t.d.y b.drift.rate.y b.plan.mode (dpK t.d.z b.drift.rate.z b.plan.mode (yesB true))):=by kernel_rfl
end Go.Ab
namespace Go.Ab
open Go Go.Proofs
def dpOk(m r md:Int):Bool:=!decide (m>2000)&&(!decide (m < -2000)&&(!(decide (m>0)&&decide (r>0))&&(!(decide (m<0)&&decide (r<0))&&!(m != 0&&md != 0))))
theorem dpK_eq(m r md:Int)(K:Option (AV×List Con)):dpK m r md K=bif dpOk m r md then K else yesB false:=by
 unfold dpK dpZ dpOk
 cases decide (m>2000)<;>cases decide (m < -2000)<;>cases decide (m>0)<;>cases decide (r>0)<;>cases decide (m<0)<;>cases decide (r<0)<;>cases (m != 0)<;>cases (md != 0)<;>rfl
def dipsV(p:HoldA):Bool :=
 bif dpOk p.2.2.1.d.x p.2.1.drift.rate.x p.2.1.plan.mode then bif dpOk p.2.2.1.d.y p.2.1.drift.rate.y p.2.1.plan.mode then dpOk p.2.2.1.d.z p.2.1.drift.rate.z p.2.1.plan.mode else false else false
theorem okDips:SumOk Tryz.prog 19 (S0 dipsV):=S0_ok (E:={gam:=[]}) GamOk.nil 20 fun p=>by
 obtain ⟨a,b,t,s,_⟩:=p
 refine (dips19 a b t s).trans ?_
 rw[dpK_eq,dpK_eq,dpK_eq]
 unfold dipsV
 dsimp only
 cases dpOk t.d.x b.drift.rate.x b.plan.mode<;>cases dpOk t.d.y b.drift.rate.y b.plan.mode<;>cases dpOk t.d.z b.drift.rate.z b.plan.mode<;>rfl
structure Agn(m r:Int):Prop where
 le:m≤219902325555
 ge:-219902325555≤m
 pos:0<m→r<0
 neg:m<0→0<r
theorem agn_zero(r:Int):Agn 0 r:=⟨by omega,by omega,by omega,by omega⟩
theorem agn_clip{v r:Int}(hp:0<v→r<0)(hn:v<0→0<r):Agn (clip v) r:=by
 unfold clip
 by_cases h1:(-219902325555:Int)>v
 ·rw[if_pos h1,if_neg (by omega)]
  exact ⟨by omega,by omega,by omega,fun _=>hn (by omega)⟩
 ·rw[if_neg h1]
  by_cases h2:(219902325555:Int)<v
  ·rw[if_pos h2]
   exact ⟨by omega,by omega,fun _=>hp (by omega),by omega⟩
  ·rw[if_neg h2]
   exact ⟨by omega,by omega,hp,hn⟩
theorem mul_agn{r v:Int}(h:fmul false r (-274877906944)=(v,false)):Agn (clip v) r:=by
 have :=fmul_spec h
 exact agn_clip (fun _=>by omega) (fun _=>by omega)
theorem fmul_bad(x y:Int):fmul true x y=(0,true):=rfl
theorem fpart_bad(x y z:Int):fpart true x y z=(0,true):=rfl
theorem dip_agn{r:V3}(h:(dip0 opsF r false).2=false):Agn (dip1 opsF r false).x r.x∧Agn (dip1 opsF r false).y r.y∧Agn (dip1 opsF r false).z r.z:=by
 unfold dip1
 unfold dip0 each3 at h ⊢
 simp only[opsF]at h ⊢
 rcases h1:fmul false r.x (-274877906944) with ⟨x,f1⟩
 rw[h1]at h
 cases f1
 ·rcases h2:fmul false r.y (-274877906944) with ⟨y,f2⟩
  simp only[h2]at h
  cases f2
  ·rcases h3:fmul false r.z (-274877906944) with ⟨z,f3⟩
   simp only[h3]at h
   subst h
   exact ⟨mul_agn h1,mul_agn h2,mul_agn h3⟩
  ·simp[fmul_bad]at h
 ·simp[fmul_bad]at h
theorem dipole_agn(d:Dr):Agn (dipole opsF false (d,())).1.x d.rate.x∧Agn (dipole opsF false (d,())).1.y d.rate.y∧Agn (dipole opsF false (d,())).1.z d.rate.z:=by
 unfold dipole
 dsimp only
 have hz:Agn V3.zero.x d.rate.x∧Agn V3.zero.y d.rate.y∧Agn V3.zero.z d.rate.z:=⟨agn_zero _,agn_zero _,agn_zero _⟩
 cases d.on
 ·exact hz
 ·simp only[Bool.not_true,cond_false]
  cases h:(dip0 opsF d.rate false).2 with
  | true=>exact hz
  | false=>exact dip_agn h
structure Cnt1(v m:Int):Prop where
 le:v≤219902325555→m≤2000
 ge:-219902325555≤v→-2000≤m
 pos:0<m→0<v
 neg:m<0→v<0
theorem cnt1_zero(v:Int):Cnt1 v 0:=⟨fun _=>by omega,fun _=>by omega,fun h=>by omega,fun h=>by omega⟩
theorem part_cnt{v m:Int}(h:fpart false v 10000 1099511627776=(m,false)):Cnt1 v m:=by
 have e:=(fpart_of h).1
 have s:=ratio3_spec (a:=v) (b:=10000) (c:=1099511627776) (by omega)
 rw[← e]at s
 exact ⟨fun _=>by omega,fun _=>by omega,fun _=>by omega,fun _=>by omega⟩
theorem fpart_flow{f:Bool}{x y z:Int}(h:(fpart f x y z).2=false):f=false:=by
 cases f with
 | false=>rfl
 | true=>rw[fpart_bad]at h;cases h
theorem part_cnt2{f:Bool}{v:Int}(h:(fpart f v 10000 1099511627776).2=false):Cnt1 v (fpart f v 10000 1099511627776).1:=by
 obtain rfl:=fpart_flow h
 exact part_cnt (Prod.ext rfl h)
theorem cnt0_d{q:V4}{v:V3}(h:(cnt0 (op3 fpart) q v).2=false):Cnt1 v.x (cnt0 (op3 fpart) q v).1.b.x∧Cnt1 v.y (cnt0 (op3 fpart) q v).1.b.y∧Cnt1 v.z (cnt0 (op3 fpart) q v).1.b.z:=by
 unfold cnt0 op3 at h ⊢
 dsimp only at h ⊢
 have h2:=fpart_flow h
 have h1:=fpart_flow h2
 exact ⟨part_cnt2 h1,part_cnt2 h2,part_cnt2 h⟩
theorem counts_d(q:V4)(v:V3):Cnt1 v.x (countsV (q,v,())).b.x∧Cnt1 v.y (countsV (q,v,())).b.y∧Cnt1 v.z (countsV (q,v,())).b.z:=by
 have e:countsV (q,v,())=bif (cnt0 (op3 fpart) q v).2 then ⟨V4.zero,V3.zero⟩ else bif !tlRight (cntTl (cnt0 (op3 fpart) q v).1) then ⟨V4.zero,V3.zero⟩ else (cnt0 (op3 fpart) q v).1:=rfl
 rw[e]
 have hz:Cnt1 v.x (0:Int)∧Cnt1 v.y (0:Int)∧Cnt1 v.z (0:Int):=⟨cnt1_zero _,cnt1_zero _,cnt1_zero _⟩
 cases h:(cnt0 (op3 fpart) q v).2 with
 | true=>exact hz
 | false =>
  rw[cond_false]
  cases tlRight (cntTl (cnt0 (op3 fpart) q v).1) with
  | false=>exact hz
  | true=>exact cnt0_d h
theorem dp_ok{m v r md:Int}(hc:Cnt1 v m)(ha:Agn v r)(hm:md≠0→v=0):dpOk m r md=true:=by
 have h1:=hc.le ha.le
 have h2:=hc.ge ha.ge
 unfold dpOk
 rw[decide_eq_false (p:=m>2000) (by omega),decide_eq_false (p:=m < -2000) (by omega)]
 simp only[Bool.not_false,Bool.true_and]
 by_cases hp:m>0
 ·have :=hc.pos hp
  have :=ha.pos this
  have hmd:md=0:=by
   rcases Decidable.em (md=0) with h | h
   ·exact h
   ·have :=hm h;omega
  subst hmd
  rw[decide_eq_false (p:=r>0) (by omega),decide_eq_false (p:=m<0) (by omega)]
  simp
 ·rw[decide_eq_false (p:=m>0) hp]
  by_cases hn:m<0
  ·have :=hc.neg hn
   have :=ha.neg this
   have hmd:md=0:=by
    rcases Decidable.em (md=0) with h | h
    ·exact h
    ·have :=hm h;omega
   subst hmd
   rw[decide_eq_false (p:=r<0) (by omega)]
   simp
  ·have:m=0:=by omega
   subst this
   rfl
theorem dips_tell(x:CX)(c:Crf)(b:ByteArray):dipsV (c,x.2.1,tellX x,b,())=true:=by
 obtain ⟨c1,c2,c3⟩:=counts_d x.2.1.guess.q (bif x.2.1.plan.mode==0 then (dipole opsF false (x.2.1.drift,())).1 else V3.zero)
 obtain ⟨a1,a2,a3⟩:=dipole_agn x.2.1.drift
 have key:∀{m v r:Int} (K:V3→Int),K V3.zero=0→v=K (dipole opsF false (x.2.1.drift,())).1→Cnt1 (K (bif x.2.1.plan.mode==0 then (dipole opsF false (x.2.1.drift,())).1 else V3.zero)) m→Agn v r→dpOk m r x.2.1.plan.mode=true:=by
  intro m v r K hK hv hc ha
  cases hm:x.2.1.plan.mode==0 with
  | true =>
   rw[hm,cond_true,← hv]at hc
   have:x.2.1.plan.mode=0:=by simpa using hm
   exact dp_ok hc ha fun h=>absurd this h
  | false =>
   rw[hm,cond_false,hK]at hc
   exact dp_ok hc (agn_zero r) fun _=>rfl
 have k1:=key (fun v=>v.x) rfl rfl c1 a1
 have k2:=key (fun v=>v.y) rfl rfl c2 a2
 have k3:=key (fun v=>v.z) rfl rfl c3 a3
 unfold dipsV tellX tellT
 dsimp only
 rw[k1,k2,k3]
 rfl
end Go.Ab
namespace Go.Ab
open Go Go.Proofs
noncomputable def wgR:Nat→Code
 | 0=>Tryz.f5.body.getD .skip
 | k+1=>seqR (wgR k)
noncomputable def wgL(k:Nat):Code:=seqL (wgR k)
noncomputable def wgO3:Array Oper:=regO (seqL (wgL 2))
noncomputable def wgO5:Array Oper:=regO (seqL (wgR 3))
theorem wg_is:Tryz.f5.body=some (.seq (wgL 0) (.seq (wgL 1) (.seq (.seq (.region 3 wgO3 false) (seqR (wgL 2))) (.seq (.region 5 wgO5 false) .ret)))):=by kernel_rfl
theorem f4_at:Tryz.prog.funcs[5]?=some Tryz.f5:=by kernel_rfl
theorem f4_N:Tryz.f5.ntmps=10:=by kernel_rfl
theorem f14_on : (Tryz.f14.body.isSome && !Tryz.f14.name == "runtime.NumGoroutine") = true := by kernel_rfl
theorem f15_on : (Tryz.f15.body.isSome && !Tryz.f15.name == "runtime.NumGoroutine") = true := by kernel_rfl
def cLight:Call:={callee:=.value (.func 14),args:=#[.tmp 5],argTypes:=#[24]}
def cEach:Call:={callee:=.value (.func 15),args:=#[.tmp 8,.func 19],argTypes:=#[24,52]}
theorem wg3_1:sigOf wgO3 1=some (.call cLight,some 6,true):=by kernel_rfl
theorem wg3_n:List.range wgO3.size=(List.range (wgO3.toList.take 1).length).map (0+·)++(1 :: ((List.range (wgO3.toList.drop 2).length).map (2+·)++[])):=by kernel_rfl
theorem wg5_1:sigOf wgO5 1=some (.call cEach,some 9,true):=by kernel_rfl
theorem wg5_n:List.range wgO5.size=(List.range (wgO5.toList.take 1).length).map (0+·)++(1 :: ((List.range (wgO5.toList.drop 2).length).map (2+·)++[])):=by kernel_rfl
def wgGam:Gam:=[(13,S0 fun (_:Unit)=>true)]
theorem wgGam_ok:GamOk Tryz.prog wgGam:=.cons okLights .nil
def wgS(bg:Int)(a:Option Addr)(n c:Nat)(tm:List (Nat×AV)):St:=gSt 10 ([(1,.ptr 4096 0),(2,.val (.bool false))]++tm) [(4096,plRow bg a n c)] lN1
def plV(bg:Int)(a:Option Addr)(n c:Nat):Value:=.agg (List.toArray [.int .i64 bg,.slice a n c])
noncomputable abbrev wgRun(c:Code)(s:St)(ks ts:List Nat):Option (Ex×St):=gRun Tryz.prog {gam:=wgGam} 10 c s ks ts
noncomputable abbrev wgEnd(ts:List Nat):St→List Foot→Option (Bool×St):=endOps [4096] (restN 10 ts)
section
variable (bg:Int) (a:Option Addr) (n c:Nat) (t:Bool)
theorem wg_q0:wgRun (wgL 0) (startS 10 [.val (.agg #[.int .i64 bg,.slice a n c])] []) [4096] [1,2]=some (.normal,wgS bg a n c []):=by kernel_rfl
theorem wg_q1:wgRun (wgL 1) (wgS bg a n c []) [4096] [1,2]=some (.normal,wgS bg a n c []):=by kernel_rfl
theorem wg_q3:opsRun Tryz.prog (callN Tryz.prog {gam:=wgGam} 4 (Bool×St)) (isSum wgGam) 10 wgO3 (wgO3.toList.take 1) (wgS bg a n c []) [] (wgEnd [1,2,5])=some (true,wgS bg a n c [(5,.val (plV bg a n c))]):=by kernel_rfl
theorem wg_q3b:opsRun Tryz.prog (callN Tryz.prog {gam:=wgGam} 4 (Bool×St)) (isSum wgGam) 10 wgO3 (wgO3.toList.drop 2) {wgS bg a n c [(5,.val (plV bg a n c))]with tmps:=(wgS bg a n c [(5,.val (plV bg a n c))]).tmps.set 6 (.val (.bool t))} [] (wgEnd [1,2,7])=some (true,wgS bg a n c [(7,.val (.bool (!t)))]):=by kernel_rfl
theorem wg_q4:wgRun (seqR (wgL 2)) (wgS bg a n c [(7,.val (.bool t))]) [4096] [1,2]=bif t then some (.ret,{wgS bg a n c []with tmps:=(wgS bg a n c []).tmps.set 2 (.val (.bool true))}) else some (.normal,wgS bg a n c []):=by kernel_rfl
theorem wg_q5:opsRun Tryz.prog (callN Tryz.prog {gam:=wgGam} 4 (Bool×St)) (isSum wgGam) 10 wgO5 (wgO5.toList.take 1) (wgS bg a n c []) [] (wgEnd [1,2,8])=some (true,wgS bg a n c [(8,.val (plV bg a n c))]):=by kernel_rfl
theorem wg_q5b:opsRun Tryz.prog (callN Tryz.prog {gam:=wgGam} 4 (Bool×St)) (isSum wgGam) 10 wgO5 (wgO5.toList.drop 2) {wgS bg a n c [(8,.val (plV bg a n c))]with tmps:=(wgS bg a n c [(8,.val (plV bg a n c))]).tmps.set 9 (.val (.bool t))} [] (wgEnd [1,2])=some (true,{wgS bg a n c []with tmps:=(wgS bg a n c []).tmps.set 2 (.val (.bool t))}):=by kernel_rfl
theorem wg_res:resA Tryz.prog {wgS bg a n c []with tmps:=(wgS bg a n c []).tmps.set 2 (.val (.bool t))} Tryz.f5.results.toList=some [.val (.bool t)]:=by kernel_rfl
theorem wg_len5(v:Value):(wgS bg a n c [(5,.val v)]).tmps.length=10:=by kernel_rfl
theorem wg_len8(v:Value):(wgS bg a n c [(8,.val v)]).tmps.length=10:=by kernel_rfl
end
theorem sum_small:∀(rs:List Rec) (s:Int),(∀r∈rs,r.2.size≤140737488355328)→0≤s→s≤3000→lgSum s rs=true→s+((rs.map fun r=>r.2.size).sum:Nat)≤3000
 | [],s,_,_,h,_=>by simpa using h
 | r :: t,s,hz,h0,h1,h=>by
  have hr:=hz r (List.mem_cons_self ..)
  have e:wI (s+(r.2.size:Int))=s+(r.2.size:Int):=wI_id (by omega) (by omega)
  unfold lgSum at h
  rw[e]at h
  by_cases hb:s+(r.2.size:Int)>3000
  ·rw[decide_eq_true hb]at h;cases h
  ·rw[decide_eq_false hb,cond_false]at h
   have :=sum_small t _ (fun x hx=>hz x (List.mem_cons_of_mem _ hx)) (by omega) (by omega) h
   simp only[List.map_cons,List.sum_cons]
   omega
theorem dips_gam:GamOk Tryz.prog (ecGam craftPre craftV toldPre toldV dipsV):=.cons okCraft (.cons okTold (.cons okDips .nil))
theorem dp_calls(bg:Int)(a:Option Addr)(c:Nat)(rs:List Rec)(w:World)(hat:RecAt w a rs.length rs)(hz:∀r∈rs,r.2.size≤140737488355328) :
  Calls Tryz.prog 5 #[.agg #[.int .i64 bg,.slice a rs.length c]] w fun e w'=>∃v,e=.returned v∧RowKit.Below w.heap.size w w'∧v=.bool true:=by
 have gr:∀{cd:Code} {s s1:St} {ks ts:List Nat} {e:Ex},wgRun cd s ks ts=some (e,s1)→RunsTo Tryz.prog 10 cd s e s1:=fun h=>gRun_runs (E:={gam:=wgGam}) wgGam_ok h
 refine calls_by (vals:=[.agg #[.int .i64 bg,.slice a rs.length c]]) (args:=[.val (.agg #[.int .i64 bg,.slice a rs.length c])]) f4_at wg_is f4_N (by show 1≤10;omega) w (by simp only[Rels,Rel];exact ⟨_,_,rfl,rfl,rfl⟩) fun act Q hst hQ=>?_
 refine wp_seq (gr (wg_q0 bg a rs.length c) _ _ _ _ _ act w hst _ fun a1 w1 h1=>?_)
 refine wp_seq (gr (wg_q1 bg a rs.length c) _ _ _ _ _ a1 w1 h1 _ fun a2 w2 h2=>?_)
 have later:∀{s:St} {ax:Act} {wx:World},StFits 10 w noOwn noName 4096 (4096+2^200) s ax wx→RecAt wx a rs.length rs:=fun h=>hat.later (by obtain ⟨_,_,hf,_⟩:=h;exact hf.grown) fun k hk=>h.far hk fun h=>h
 refine wp_seq (wp_seq (wp_region ?_))
 rw[wg3_n]
 refine ops_fit (callN_ok (E:={gam:=wgGam}) wgGam_ok 4 _) [4096] _ (wg_q3 bg a rs.length c) (fun _ _ hj=>take_at hj) h2 _ fun a3 w3 h3=>?_
 have harg:cLight.args.map a3.eval=#[plV bg a rs.length c]:=by
  have:a3.eval (.tmp 5)=plV bg a rs.length c:=h3.eval (t:=5) rfl
  simp[cLight,this]
 refine call_else wg3_1 (by omega) (wg_len5 ..) h3 rfl f14_is f14_on harg (light_calls bg a c rs w3 (later h3)) _ fun v a4 w4 own1 σ1 hX _ _ _ h4 back=>?_
 subst hX
 refine ops_fit (callN_ok (E:={gam:=wgGam}) wgGam_ok 4 _) [4096] _ (wg_q3b bg a rs.length c (lightV bg rs)) (fun _ _ hj=>drop_at hj) h4 [] fun a5 w5 h5=>?_
 have h5:=back _ _ _ h5
 have q4:=wg_q4 bg a rs.length c (!lightV bg rs)
 cases hl:lightV bg rs with
 | false =>
  rw[hl]at h5 q4
  refine gr q4 _ _ _ _ _ a5 w5 h5 _ fun a6 w6 h6=>?_
  exact hQ .ret a6 w6 _ _ _ (.inr rfl) h6 (wg_res ..) rfl rfl
 | true =>
  rw[hl]at h5 q4
  refine gr q4 _ _ _ _ _ a5 w5 h5 _ fun a6 w6 h6=>?_
  refine wp_seq (wp_region ?_)
  rw[wg5_n]
  refine ops_fit (callN_ok (E:={gam:=wgGam}) wgGam_ok 4 _) [4096] _ (wg_q5 bg a rs.length c) (fun _ _ hj=>take_at hj) h6 _ fun a7 w7 h7=>?_
  have harg:cEach.args.map a7.eval=#[plV bg a rs.length c,.func (.func 19) #[] #[]]:=by
   have h1:a7.eval (.tmp 8)=plV bg a rs.length c:=h7.eval (t:=8) rfl
   have h2:a7.eval (.func 19)=.func (.func 19) #[] #[]:=rfl
   simp[cEach,h1,h2]
  have hsum:(crf0.left.size+(rs.map fun r=>r.2.size).sum:Nat)≤1099511627776:=by
   have h1:lgSum 0 rs=true:=by
    unfold lightV at hl
    simp only[Bool.and_eq_true]at hl
    exact hl.1
   have :=sum_small rs 0 hz (by omega) (by omega) h1
   show 0+_≤_
   omega
  obtain ⟨e1,e2⟩:=each_holds (hd:=dipsV) (fun c tk b _ _=>dips_tell _ c b) rs crf0 bg crf0_in hsum
  refine call_else wg5_1 (by omega) (wg_len8 ..) h7 rfl f15_is f15_on harg (each_calls dips_gam bg a c rs w7 (later h7) e1) _ fun v a8 w8 own1 σ1 hX _ _ _ h8 back=>?_
  subst hX
  rw[e2]at h8
  refine ops_fit (callN_ok (E:={gam:=wgGam}) wgGam_ok 4 _) [4096] _ (wg_q5b bg a rs.length c true) (fun _ _ hj=>drop_at hj) h8 [] fun a9 w9 h9=>?_
  have fin:Q .ret a9 w9:=hQ .ret a9 w9 _ _ _ (.inr rfl) (back _ _ _ h9) (wg_res ..) rfl rfl
  change Code.wp Tryz.prog .ret Q a9 w9
  exact wp_ret fin
end Go.Ab
