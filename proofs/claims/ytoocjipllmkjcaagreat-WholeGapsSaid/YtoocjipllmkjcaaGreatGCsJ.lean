/- A part of the proofs: lemmas, no statement of their own; no condition. -/
import Derived.Test.YtoocjipllmkjcaaGreatGCrQ
import Derived.Deep.Slices
import Derived.Test.YtoocjipllmkjcaaGreatRows
import Derived.ProofKit
set_option linter.unusedSimpArgs false
namespace Go.Ab
open Go Go.Proofs
abbrev noOwn:Nat→Prop:=fun _=>False
abbrev noName:Nat→Option Nat:=fun _=>none
theorem calls_by {P:Program} {N:Nat} {f:FuncId} {fn:Func} {c:Code} (hfn:P.funcs[f]?=some fn) (hbody:fn.body=some c) (hN:fn.ntmps=N) {args:List AV} {vals:List Value} (hle:args.length≤N) (w:World) (hv:Rels noName args vals) {X:Value→Prop}
  (H:∀ (a:Act) (Q:Exit→Act→World→Prop),StFits N w noOwn noName 4096 (4096 + 2 ^ 200) (startS N args []) a w→(∀ (e:Ex) a' w' s' l v,(e=.normal ∨ e=.ret)→StFits N w noOwn noName 4096 (4096 + 2 ^ 200) s' a' w'→resA P s' fn.results.toList=some l→pack l=.val v→X v→Q e.to a' w')→c.wp P Q a w) :
  Calls P f (List.toArray vals) w fun e w'=>∃ v,e=.returned v∧RowKit.Below w.heap.size w w'∧X v:=by
 subst hN
 have hlen:=Rels.length hv
 refine calls_of_wp hfn hbody ?_
 have hargsR:Rels noName (args ++ List.replicate (fn.ntmps - args.length) (.val undef)) (vals ++ List.replicate (fn.ntmps - args.length) undef):=Rels.append hv (Rels.undefs _ _)
 refine H _ _ ⟨noName,(startS fn.ntmps args []).u,⟨rfl,by simp; omega,fun t v hv=>?_,fun b e cs hb=>?_,fun b o hb=>?_,(fun _ _ _ h=>by cases h),(fun _ _ h=>by cases h),(fun _ _ _ _ _ h=>by cases h),(fun _ _ _ _ h=>by cases h),rfl,rfl,rfl,Nat.le_refl _,fun _ _ _=>rfl⟩,Sub.refl _,fun _ _ _=>rfl,Le.refl _,fun _ h _=>h,Nat.le_refl _,Nat.le_refl _⟩ ?_
 ·simp only [St.u,stU,startS,Option.map_eq_some_iff,Con.av.injEq] at hv
  obtain ⟨x,hx,rfl⟩:=hv
  obtain ⟨y,hy,hrel⟩:=Rels.get hargsR hx
  refine ⟨y,?_,hrel⟩
  rw [← hy]
  have:(List.toArray vals ++ Array.replicate (fn.ntmps - (List.toArray vals).size) undef)=List.toArray (vals ++ List.replicate (fn.ntmps - args.length) undef):=by
   apply Array.toList_inj.1; simp [hlen]
  simp only [this,List.getElem?_toArray]
 ·simp [St.u,stU,startS,numH,hget] at hb
 ·simp [St.u,stU,startS,numH,hget] at hb
 ·intro e a' w' s' l v he hst hr hp hX
  obtain ⟨σ,u,hf,hs,_⟩:=hst
  obtain ⟨x,hx,hrel⟩:=run_results (P:=P) (fn:=fn) hf hs hr
  rw [hp] at hrel
  simp only [Rel] at hrel
  subst hrel
  have hb:RowKit.Below w.heap.size w w':=⟨hf.os,hf.tape,hf.output,hf.grown,fun k hk=>hf.frame k hk fun h=>h⟩
  rcases he with rfl | rfl
  ·exact bodyPost_end hx hf.defers ⟨_,rfl,hb,hX⟩
  ·exact bodyPost_ret hx hf.defers ⟨_,rfl,hb,hX⟩
def lgSum (s:Int):List Rec→Bool
 | []=>true
 | r :: t=>bif decide (wI (s + (r.2.size:Int)) > 3000) then false else lgSum (wI (s + (r.2.size:Int))) t
def lightV (bg:Int) (rs:List Rec):Bool:=lgSum 0 rs && (decide ((rs.length:Int)≤30) && (decide (bg≥0) && decide (bg≤157766400000)))
theorem lg_named (bg:Int) (a:Option Addr) (n c:Nat) (s i:Int) (lo:Nat):okClean lN1 { lgI bg a n c s i [] with lo:=lo }=true:=by kernel_rfl
theorem lg_len (bg:Int) (a:Option Addr) (n c:Nat) (s i:Int):(lgI bg a n c s i []).tmps.length=35:=by kernel_rfl
theorem lg_resI (bg:Int) (a:Option Addr) (n c:Nat) (s i:Int) (lo:Nat):resA Tryz.prog { lgI bg a n c s i [] with lo:=lo } Tryz.f14.results.toList=some [.val (.bool false)]:=by kernel_rfl
theorem lg_resV (b:Bool) (lo:Nat):resA Tryz.prog (lgV b lo) Tryz.f14.results.toList=some [.val (.bool b)]:=by kernel_rfl
abbrev LgFit (w:World) (s:St) (a:Act) (w':World):Prop:=StFits 35 w noOwn noName 4096 (4096 + 2 ^ 200) s a w'
theorem lg_g {c:Code} {s s1:St} {e:Ex} {ks ts:List Nat} (h:lgRun c s ks ts=some (e,s1)):RunsTo Tryz.prog 35 c s e s1:=gRun_runs (E:={ gam:=[] }) GamOk.nil h
theorem StFits.let_go {N:Nat} {w0:World} {own:Nat→Prop} {lo0 hi0 lo:Nat} {s:St} {a:Act} {w:World} (h:StFits N w0 own noName lo0 hi0 s a w) (hok:okClean lo s=true) (hlo:lo0≤lo) (hhi:s.hi=hi0):StFits N w0 own noName lo0 hi0 { s with lo:=lo } a w:=by
 obtain ⟨σ,u,hf,hs,hn,hl,ho,h1,h2⟩:=h
 simp only [okClean,Bool.and_eq_true,List.all_eq_true,Nat.blt_eq] at hok
 obtain ⟨hct,hch⟩:=hok
 have hblk:∀ b c,s.u (.blk b)=some c→cleanB lo hi0 b:=fun b c hb=>by
  have hm:=hget_mem (H:=s.heap) hb
  have :=(hch _ hm).1
  unfold cleanB
  omega
 have hcl:∀ l c,s.u l=some c→CleanC lo hi0 c:=fun l c hl=>by
  cases l with
  | tmp t =>
   simp only [St.u,stU,Option.map_eq_some_iff] at hl
   obtain ⟨x,hx,rfl⟩:=hl
   intro b hb
   have :=hct x (List.mem_of_getElem? hx) b hb
   unfold cleanB
   omega
  | blk b =>
   have hm:=hget_mem (H:=s.heap) hl
   have :=(hch _ hm).2
   cases c with
   | av x=>intro d hd; have :=this d hd; unfold cleanB; omega
   | row e cs=>intro d hd; have :=this d hd; unfold cleanB; omega
   | obj o=>trivial
 have hw:Fits N w0 own σ s.u a w:=hf.sub hs
 refine ⟨cutσ σ lo hi0,s.u,?_,Sub.refl _,fun b hb1 hb2=>?_,fun b r hb=>(by cases hb),fun b hb1 hb2=>?_,hlo,h2⟩
 ·refine { hw with tmp:=fun t v hv=>?_,row:=fun b e cs hb=>?_,obj:=fun b o hb=>?_,inj:=fun b b' r h1 h2=>hw.inj b b' r (cutσ_some h1) (cutσ_some h2),bound:=fun b r hb=>hw.bound b r (cutσ_some hb),ownsR:=fun b e cs r hb hr=>hw.ownsR b e cs r hb (cutσ_some hr),ownsO:=fun b o r hb hr=>hw.ownsO b o r hb (cutσ_some hr) }
  ·obtain ⟨x,h3,h4⟩:=hw.tmp t v hv
   exact ⟨x,h3,Rel.cut v x (hcl _ _ hv) h4⟩
  ·obtain ⟨r,vs,h3,h4,h5⟩:=hw.row b e cs hb
   exact ⟨r,vs,by rw [cutσ_clean (hblk b _ hb)]; exact h3,h4,Rels.cut cs vs (hcl _ _ hb) h5⟩
  ·obtain ⟨r,o',h3,h4,h5⟩:=hw.obj b o hb
   exact ⟨r,o',by rw [cutσ_clean (hblk b _ hb)]; exact h3,h4,h5⟩
 ·have hb2:b < hi0:=by rw [← hhi]; exact hb2
  unfold cutσ
  rw [if_pos ⟨hb1,hb2⟩]
 ·have :=ho b hb1 hb2
  unfold cutσ
  split
  ·rfl
  ·exact this
end Go.Ab
set_option linter.unusedSimpArgs false
namespace Go.Ab
open Go Go.Proofs
theorem adds (a:Addr) (i j:Nat):(a.add i).add j=a.add (i + j):=by
 unfold Addr.add
 by_cases hi:i=0 <;> by_cases hj:j=0 <;> simp [hi,hj,Nat.add_assoc]
theorem lg_rounds {w:World} {bg:Int} {a:Option Addr} {c:Nat} {rs:List Rec} (hat:RecAt w a rs.length rs) {Q:Exit→Act→World→Prop} :
  ∀ (m i:Nat) (s:Int) (act:Act) (w':World),i + m=rs.length→(∀ a' w2 s',lgSum s (rs.drop i)=true→LgFit w (lgI bg a rs.length c s' rs.length []) a' w2→Q (.exit 0) a' w2) →
   (∀ a' w2 s' i' lo,lgSum s (rs.drop i)=false→LgFit w { lgI bg a rs.length c s' i' [] with lo:=lo } a' w2→Q .ret a' w2)→LgFit w (lgI bg a rs.length c s i []) act w' →
   Code.rounds Tryz.prog (.seq (seqL lgB) (.seq (seqL (seqR lgB)) (.seq (.block 1 (.seq (.region 4 lgO4 false) (seqR lgB1))) (seqR (seqR (seqR lgB)))))) Q (m + 1) act w':=by
 intro m
 induction m with
 | zero =>
  intro i s act w' hi hQ _ hst
  have hi':i=rs.length:=by omega
  subst hi'
  rw [rounds_succ]
  refine wp_seq (lg_g (lg_q3 bg s rs.length a rs.length c) _ _ _ _ _ act w' hst _ fun a1 w1 h1=>?_)
  rw [decide_eq_false (by omega)] at h1
  refine wp_seq (lg_g (lg_qc bg s rs.length a rs.length c false) _ _ _ _ _ a1 w1 h1 _ fun a2 w2 h2=>?_)
  exact hQ a2 w2 s (by rw [List.drop_of_length_le (Nat.le_refl _)]; rfl) h2
 | succ m ih =>
  intro i s act w' hi hQ hR hst
  rw [rounds_succ]
  have hlt:i < rs.length:=by omega
  refine wp_seq (lg_g (lg_q3 bg s i a rs.length c) _ _ _ _ _ act w' hst _ fun a1 w1 h1=>?_)
  rw [decide_eq_true (by omega)] at h1
  refine wp_seq (lg_g (lg_qc bg s i a rs.length c true) _ _ _ _ _ a1 w1 h1 _ fun a2 w2 h2=>?_)
  refine wp_seq (wp_block (wp_seq (wp_region ?_)))
  rw [lg4_n]
  have hat2:RecAt w2 a rs.length rs:=hat.later (by obtain ⟨_,_,hf,_⟩:=h2; exact hf.grown) fun k hk=>h2.far hk fun h=>h
  obtain ⟨ad,rfl,_,hc0,hc1⟩:=hat2.lies i hlt
  obtain ⟨ti,hti,hs⟩:=info70
  refine index_fit lg4_0 (by omega) (lg_len ..) v22s hti h2 (b:=ad) (len:=rs.length) (cap:=c) (i:=i) (ik:=.i64) (h2.eval (t:=7) rfl) (h2.eval (t:=9) rfl) hlt _ fun a3 h3=>?_
  have ead:∀ k,(ad.add (i * ti.size)).add k=ad.add (i * 2 + k):=by
   intro k
   rw [hs]
   exact adds ad (i * 2) k
  refine load_fit lg4_1 (by omega) (by rw [List.length_set]; exact lg_len ..) h3 (b:=ad.add (i * ti.size)) (h3.eval (t:=11) (by rw [List.getElem?_set_self (by rw [lg_len]; omega)])) (run_rec (k:=rs[i].1) (d:=rs[i].2) (by rw [ead]; exact hc0) (by rw [ead]; exact hc1)) _ fun a4 h4=>?_
  refine ops_fit (callN_ok (E:={ gam:=[] }) GamOk.nil 4 _) [4096,lN1] _ (lg_q4 bg s i rs[i].1 (some ad) (ad.add (i * ti.size)) rs.length c rs[i].2) (fun _ _ hj=>drop_at hj) h4 [] fun a5 w5 h5=>?_
  change Code.wp Tryz.prog (seqR lgB1) _ a5 w5
  have hd:rs.drop i=rs[i] :: rs.drop (i + 1):=List.drop_eq_getElem_cons hlt
  have hq:=lg_q5 bg s i rs[i].1 (some ad) rs.length c rs[i].2
  rw [hd] at hQ hR
  cases hbig:decide (wI (s + (rs[i].2.size:Int)) > 3000) with
  | true =>
   rw [hbig,cond_true] at hq
   refine lg_g hq _ _ _ _ _ a5 w5 h5 _ fun a6 w6 h6=>?_
   exact hR a6 w6 _ _ _ (by unfold lgSum; rw [hbig]; rfl) h6
  | false =>
   rw [hbig,cond_false] at hq
   refine lg_g hq _ _ _ _ _ a5 w5 h5 _ fun a6 w6 h6=>?_
   simp only [Ex.to,Exit.inBlock]
   have h7:=h6.let_go (lo:=lN1) (lg_named ..) (by show 4096≤lN1; decide +kernel) rfl
   have h8:LgFit w (lgI bg (some ad) rs.length c (wI (s + (rs[i].2.size:Int))) i []) a6 w6:=h7
   refine lg_g (lg_q8 bg _ i (some ad) rs.length c) _ _ _ _ _ a6 w6 h8 _ fun a7 w7 h9=>?_
   have hw:wI ((i:Int) + 1)=((i + 1:Nat):Int):=by have :=hat.small; unfold wI; rw [wrapM]; omega
   rw [hw] at h9
   have hsum:lgSum s (rs[i] :: rs.drop (i + 1))=lgSum (wI (s + (rs[i].2.size:Int))) (rs.drop (i + 1)):=by
    show (bif decide (wI (s + (rs[i].2.size:Int)) > 3000) then false else lgSum (wI (s + (rs[i].2.size:Int))) (rs.drop (i + 1)))=_
    rw [hbig]
    rfl
   rw [hsum] at hQ hR
   exact ih (i + 1) _ a7 w7 (by omega) hQ hR h9
theorem light_calls (bg:Int) (a:Option Addr) (c:Nat) (rs:List Rec) (w:World) (hat:RecAt w a rs.length rs) :
  Calls Tryz.prog 14 #[.agg #[.int .i64 bg,.slice a rs.length c]] w fun e w'=>∃ v,e=.returned v∧RowKit.Below w.heap.size w w'∧v=.bool (lightV bg rs):=by
 refine calls_by (vals:=[.agg #[.int .i64 bg,.slice a rs.length c]]) (args:=[.val (.agg #[.int .i64 bg,.slice a rs.length c])]) f14_is lg_is f14_N (by show 1≤35; omega) w (by simp only [Rels,Rel]; exact ⟨_,_,rfl,rfl,rfl⟩) fun act Q hst hQ=>?_
 refine wp_seq (lg_g (lg_q0 bg a rs.length c) _ _ _ _ _ act w hst _ fun a1 w1 h1=>?_)
 refine wp_seq (lg_g (lg_q1 bg a rs.length c) _ _ _ _ _ a1 w1 h1 _ fun a2 w2 h2=>?_)
 refine wp_seq (wp_seq (lg_g (lg_q2 bg a rs.length c) _ _ _ _ _ a2 w2 h2 _ fun a3 w3 h3=>?_))
 refine wp_block (wp_loop_rounds (rs.length + 1) (lg_rounds hat rs.length 0 0 a3 w3 (by omega) (fun a4 w4 s' hs h4=>?_) (fun a4 w4 s' i' lo hs h4=>?_) h3))
 ·simp only [Exit.inBlock,if_true]
  rw [List.drop_zero] at hs
  have hq:=lg_q9 bg s' rs.length a rs.length c
  have e:lightV bg rs=(decide ((rs.length:Int)≤30) && (decide (bg≥0) && decide (bg≤157766400000))):=by unfold lightV; rw [hs]; rfl
  have go:lgRun (lgR 3) (lgI bg a rs.length c s' rs.length []) [] [2]=some (.ret,lgV (lightV bg rs) lN1):=by
   rw [hq,e]
   cases decide ((rs.length:Int)≤30)
   ·rfl
   ·cases decide (bg≥0) <;> rfl
  refine lg_g go _ _ _ _ _ a4 w4 h4 _ fun a5 w5 h5=>?_
  exact hQ .ret a5 w5 _ _ _ (.inr rfl) h5 (lg_resV ..) rfl rfl
 ·rw [List.drop_zero] at hs
  have e:lightV bg rs=false:=by unfold lightV; rw [hs]; rfl
  exact hQ .ret a4 w4 _ _ _ (.inr rfl) h4 (lg_resI ..) rfl (by rw [e])
end Go.Ab
set_option linter.unusedSimpArgs false
namespace Go.Ab
open Go Go.Proofs
def eachV (g:StpA→Two Crf ByteArray) (td:ByteArray×Unit→Two Tl Bool) (hd:HoldA→Bool) (cr:Crf) (tk:Int):List Rec→Bool
 | []=>true
 | r :: t =>
  bif (g (cr,laterV tk r.1,r.2,())).b.toList == (⟨#[]⟩:ByteArray).toList then bif !crfK (g (cr,laterV tk r.1,r.2,())).a cr then false else eachV g td hd cr (laterV tk r.1) t
  else bif !(td ((g (cr,laterV tk r.1,r.2,())).b,())).b then false else bif !hd (cr,(g (cr,laterV tk r.1,r.2,())).a,(td ((g (cr,laterV tk r.1,r.2,())).b,())).a,r.2,()) then false else eachV g td hd (g (cr,laterV tk r.1,r.2,())).a (laterV tk r.1) t
def EachOk (pre:StpA→Bool) (g:StpA→Two Crf ByteArray) (tp:ByteArray×Unit→Bool) (cr:Crf) (tk:Int):List Rec→Prop
 | []=>True
 | r :: t=>pre (cr,laterV tk r.1,r.2,())=true ∧
  (((g (cr,laterV tk r.1,r.2,())).b.toList == (⟨#[]⟩:ByteArray).toList)=true→EachOk pre g tp cr (laterV tk r.1) t) ∧
  (((g (cr,laterV tk r.1,r.2,())).b.toList == (⟨#[]⟩:ByteArray).toList)=false→tp ((g (cr,laterV tk r.1,r.2,())).b,())=true∧EachOk pre g tp (g (cr,laterV tk r.1,r.2,())).a (laterV tk r.1) t)
theorem ec_resS (bg:Int) (a:Option Addr) (n c:Nat) (cr:Crf) (tk i:Int) (lo:Nat) (H:Hp):resA Tryz.prog (ecS bg a n c cr tk i lo [] H) Tryz.f15.results.toList=some [.val (.bool false)]:=by kernel_rfl
theorem ec_resX (bg:Int) (a:Option Addr) (n c:Nat) (cr:Crf) (tk i:Int) (lo:Nat) (x y:AV) (H:Hp):resA Tryz.prog (ecS bg a n c cr tk i lo [(8,x),(9,y)] H) Tryz.f15.results.toList=some [.val (.bool false)]:=by kernel_rfl
abbrev EcFit (w:World) (s:St) (a:Act) (w':World):Prop:=StFits 60 w noOwn noName 4096 (4096 + 2 ^ 200) s a w'
section
variable {pre:StpA→Bool} {g:StpA→Two Crf ByteArray} {tp:ByteArray×Unit→Bool} {td:ByteArray×Unit→Two Tl Bool} {hd:HoldA→Bool} (hG:GamOk Tryz.prog (ecGam pre g tp td hd))
include hG
theorem ec_g {c:Code} {s s1:St} {e:Ex} {ks ts:List Nat} (h:ecRun pre g tp td hd c s ks ts=some (e,s1)):RunsTo Tryz.prog 60 c s e s1:=gRun_runs (E:={ gam:=ecGam pre g tp td hd }) hG h
theorem ec_body {w:World} {bg tk:Int} {a:Option Addr} {n c i:Nat} {cr:Crf} {r:Rec} {t:List Rec} (hok:EachOk pre g tp cr tk (r :: t)) {Q:Exit→Act→World→Prop} {act:Act} {w':World} (hst:EcFit w (ecF bg a n c cr tk i r.1 r.2) act w')
  (hN:∀ a' w2 cr' e,(e=Ex.normal ∨ e=.exit 1)→EachOk pre g tp cr' (laterV tk r.1) t→eachV g td hd cr tk (r :: t)=eachV g td hd cr' (laterV tk r.1) t→EcFit w (ecS bg a n c cr' (laterV tk r.1) i eN2 [] []) a' w2→Q e.to a' w2)
  (hR:∀ a' w2 s',eachV g td hd cr tk (r :: t)=false→EcFit w s' a' w2→resA Tryz.prog s' Tryz.f15.results.toList=some [.val (.bool false)]→Q .ret a' w2) :
  (Code.seq (seqL (ecT 1)) (.seq (seqL (ecT 2)) (.seq (seqL (ecT 3)) (.seq (seqL (ecT 4)) (.seq (seqL (ecT 5)) (ecT 6)))))).wp Tryz.prog Q act w':=by
 obtain ⟨hp,he1,he2⟩:=hok
 refine wp_seq (ec_g hG (ec_q6 pre g tp td hd bg tk i r.1 a n c cr r.2) _ _ _ _ _ act w' hst _ fun a1 w1 h1=>?_)
 have q7:=ec_q7 pre g tp td hd bg (laterV tk r.1) i r.1 a n c cr r.2
 rw [hp,cond_true] at q7
 refine wp_seq (ec_g hG q7 _ _ _ _ _ a1 w1 h1 _ fun a2 w2 h2=>?_)
 have hun:eachV g td hd cr tk (r :: t)=bif (g (cr,laterV tk r.1,r.2,())).b.toList == (⟨#[]⟩:ByteArray).toList then bif !crfK (g (cr,laterV tk r.1,r.2,())).a cr then false else eachV g td hd cr (laterV tk r.1) t
  else bif !(td ((g (cr,laterV tk r.1,r.2,())).b,())).b then false else bif !hd (cr,(g (cr,laterV tk r.1,r.2,())).a,(td ((g (cr,laterV tk r.1,r.2,())).b,())).a,r.2,()) then false else eachV g td hd (g (cr,laterV tk r.1,r.2,())).a (laterV tk r.1) t:=rfl
 generalize hy:g (cr,laterV tk r.1,r.2,())=y at *
 obtain ⟨nx,s⟩:=y
 dsimp only at he1 he2 hun h2
 have q8e:=ec_q8e pre g tp td hd bg (laterV tk r.1) i r.1 a n c cr nx r.2 s
 have q8n:=ec_q8n pre g tp td hd bg (laterV tk r.1) i r.1 a n c cr nx r.2 s
 have low:4096≤eN2:=by decide +kernel
 cases hs:s.toList == (⟨#[]⟩:ByteArray).toList with
 | true =>
  rw [hs,cond_true] at q8e hun
  cases hk:crfK nx cr with
  | false =>
   rw [hk] at q8e hun
   refine wp_seq (ec_g hG q8e _ _ _ _ _ a2 w2 h2 _ fun a3 w3 h3=>?_)
   exact hR a3 w3 _ (by rw [hun]; rfl) h3 (ec_resS ..)
  | true =>
   rw [hk] at q8e hun
   refine wp_seq (ec_g hG q8e _ _ _ _ _ a2 w2 h2 _ fun a3 w3 h3=>?_)
   have h4:=h3.let_go (lo:=eN2) (ec_clean ..) low rfl
   exact hN a3 w3 cr (.exit 1) (.inr rfl) (he1 hs) (by rw [hun]; rfl) h4
 | false =>
  rw [hs,cond_false] at q8n hun
  obtain ⟨ht,hok2⟩:=he2 hs
  refine wp_seq (ec_g hG q8n _ _ _ _ _ a2 w2 h2 _ fun a3 w3 h3=>?_)
  have q9:=ec_q9 pre g tp td hd bg (laterV tk r.1) i r.1 a n c cr nx r.2 s
  rw [ht,cond_true] at q9
  refine wp_seq (ec_g hG q9 _ _ _ _ _ a3 w3 h3 _ fun a4 w4 h4=>?_)
  have q10:=ec_q10 pre g tp td hd bg (laterV tk r.1) i r.1 a n c cr nx (td (s,())).b (td (s,())).a r.2
  cases hb:(td (s,())).b with
  | false =>
   rw [hb] at q10 hun h4
   refine wp_seq (ec_g hG q10 _ _ _ _ _ a4 w4 h4 _ fun a5 w5 h5=>?_)
   exact hR a5 w5 _ (by rw [hun]; rfl) h5 (ec_resX ..)
  | true =>
   rw [hb] at q10 hun h4
   rw [Bool.not_true,cond_false] at q10 hun
   cases hh:hd (cr,nx,(td (s,())).a,r.2,()) with
   | false =>
    rw [hh] at q10 hun
    refine wp_seq (ec_g hG q10 _ _ _ _ _ a4 w4 h4 _ fun a5 w5 h5=>?_)
    exact hR a5 w5 _ (by rw [hun]; rfl) h5 (ec_resX ..)
   | true =>
    rw [hh] at q10 hun
    refine wp_seq (ec_g hG q10 _ _ _ _ _ a4 w4 h4 _ fun a5 w5 h5=>?_)
    refine ec_g hG (ec_q11 pre g tp td hd bg (laterV tk r.1) i r.1 a n c cr nx r.2) _ _ _ _ _ a5 w5 h5 _ fun a6 w6 h6=>?_
    have h7:=h6.let_go (lo:=eN2) (ec_clean ..) low rfl
    exact hN a6 w6 nx .normal (.inl rfl) hok2 (by rw [hun]; rfl) h7
theorem ec_rounds {w:World} {bg:Int} {a:Option Addr} {c:Nat} {rs:List Rec} (hat:RecAt w a rs.length rs) {Q:Exit→Act→World→Prop} :
  ∀ (m i:Nat) (cr:Crf) (tk:Int) (act:Act) (w':World),i + m=rs.length→EachOk pre g tp cr tk (rs.drop i)→(∀ a' w2 cr' tk',eachV g td hd cr tk (rs.drop i)=true→EcFit w (ecS bg a rs.length c cr' tk' rs.length eN2 [] []) a' w2→Q (.exit 0) a' w2) →
   (∀ a' w2 s',eachV g td hd cr tk (rs.drop i)=false→EcFit w s' a' w2→resA Tryz.prog s' Tryz.f15.results.toList=some [.val (.bool false)]→Q .ret a' w2)→EcFit w (ecS bg a rs.length c cr tk i eN2 [] []) act w' →
   Code.rounds Tryz.prog (.seq (seqL ecB) (.seq (seqL (seqR ecB)) (.seq (.block 1 (.seq (.region 5 ecO5 false) (.seq (seqL (ecT 1)) (.seq (seqL (ecT 2)) (.seq (seqL (ecT 3)) (.seq (seqL (ecT 4)) (.seq (seqL (ecT 5)) (ecT 6)))))))) (seqR (seqR (seqR ecB)))))) Q (m + 1) act w':=by
 intro m
 induction m with
 | zero =>
  intro i cr tk act w' hi _ hQ _ hst
  have hi':i=rs.length:=by omega
  subst hi'
  rw [rounds_succ]
  refine wp_seq (ec_g hG (ec_q4 pre g tp td hd bg tk rs.length a rs.length c cr) _ _ _ _ _ act w' hst _ fun a1 w1 h1=>?_)
  rw [decide_eq_false (by omega)] at h1
  refine wp_seq (ec_g hG (ec_qc pre g tp td hd bg tk rs.length a rs.length c cr false) _ _ _ _ _ a1 w1 h1 _ fun a2 w2 h2=>?_)
  exact hQ a2 w2 cr tk (by rw [List.drop_of_length_le (Nat.le_refl _)]; rfl) h2
 | succ m ih =>
  intro i cr tk act w' hi hok hQ hR hst
  rw [rounds_succ]
  have hlt:i < rs.length:=by omega
  refine wp_seq (ec_g hG (ec_q4 pre g tp td hd bg tk i a rs.length c cr) _ _ _ _ _ act w' hst _ fun a1 w1 h1=>?_)
  rw [decide_eq_true (by omega)] at h1
  refine wp_seq (ec_g hG (ec_qc pre g tp td hd bg tk i a rs.length c cr true) _ _ _ _ _ a1 w1 h1 _ fun a2 w2 h2=>?_)
  refine wp_seq (wp_block (wp_seq (wp_region ?_)))
  rw [ec5_n]
  have hat2:RecAt w2 a rs.length rs:=hat.later (by obtain ⟨_,_,hf,_⟩:=h2; exact hf.grown) fun k hk=>h2.far hk fun h=>h
  obtain ⟨ad,rfl,_,hc0,hc1⟩:=hat2.lies i hlt
  obtain ⟨ti,hti,hs⟩:=info70
  refine index_fit ec5_0 (by omega) (ec_len ..) v22s hti h2 (b:=ad) (len:=rs.length) (cap:=c) (i:=i) (ik:=.i64) (h2.eval (t:=16) rfl) (h2.eval (t:=18) rfl) hlt _ fun a3 h3=>?_
  have ead:∀ k,(ad.add (i * ti.size)).add k=ad.add (i * 2 + k):=by
   intro k
   rw [hs]
   exact adds ad (i * 2) k
  refine load_fit ec5_1 (by omega) (by rw [List.length_set]; exact ec_len ..) h3 (b:=ad.add (i * ti.size)) (h3.eval (t:=20) (by rw [List.getElem?_set_self (by rw [ec_len]; omega)])) (run_rec (k:=rs[i].1) (d:=rs[i].2) (by rw [ead]; exact hc0) (by rw [ead]; exact hc1)) _ fun a4 h4=>?_
  refine ops_fit (callN_ok (E:={ gam:=ecGam pre g tp td hd }) hG 4 _) [4096,eN1,eN2] _ (ec_q5 pre g tp td hd bg tk i rs[i].1 (some ad) (ad.add (i * ti.size)) rs.length c cr rs[i].2) (fun _ _ hj=>drop_at hj) h4 [] fun a5 w5 h5=>?_
  have hdr:rs.drop i=rs[i] :: rs.drop (i + 1):=List.drop_eq_getElem_cons hlt
  rw [hdr] at hok hQ hR
  refine ec_body hG hok h5 (fun a6 w6 cr' e he hok2 heq h6=>?_) fun a6 w6 s' hf h6 hr=>hR a6 w6 s' hf h6 hr
  rw [heq] at hQ hR
  have hw:IntKind.i64.wrap ((i:Int) + 1)=((i + 1:Nat):Int):=by have :=hat.small; rw [wrapM]; omega
  have next:(seqR (seqR (seqR ecB))).wp Tryz.prog (Exit.then (Code.rounds Tryz.prog (.seq (seqL ecB) (.seq (seqL (seqR ecB)) (.seq (.block 1 (.seq (.region 5 ecO5 false) (.seq (seqL (ecT 1)) (.seq (seqL (ecT 2)) (.seq (seqL (ecT 3)) (.seq (seqL (ecT 4)) (.seq (seqL (ecT 5)) (ecT 6)))))))) (seqR (seqR (seqR ecB)))))) Q (m + 1)) Q) a6 w6:=by
   refine ec_g hG (ec_q15 pre g tp td hd bg (laterV tk rs[i].1) i (some ad) rs.length c cr') _ _ _ _ _ a6 w6 h6 _ fun a7 w7 h9=>?_
   rw [hw] at h9
   exact ih (i + 1) cr' _ a7 w7 (by omega) hok2 hQ hR h9
  rcases he with rfl | rfl
  ·simp only [Ex.to,Exit.inBlock]
   exact next
  ·simp only [Ex.to,Exit.inBlock,if_true]
   exact next
theorem each_calls (bg:Int) (a:Option Addr) (c:Nat) (rs:List Rec) (w:World) (hat:RecAt w a rs.length rs) (hok:EachOk pre g tp crf0 bg rs) :
  Calls Tryz.prog 15 #[.agg #[.int .i64 bg,.slice a rs.length c],.func (.func 18) #[] #[]] w fun e w'=>∃ v,e=.returned v∧RowKit.Below w.heap.size w w'∧v=.bool (eachV g td hd crf0 bg rs):=by
 refine calls_by (vals:=[.agg #[.int .i64 bg,.slice a rs.length c],.func (.func 18) #[] #[]]) (args:=[.val (.agg #[.int .i64 bg,.slice a rs.length c]),.func 18 [] []]) f15_is ec_is f15_N (by show 2≤60; omega) w (by simp only [Rels,Rel]; exact ⟨_,_,rfl,rfl,_,_,rfl,⟨_,_,rfl,rfl,rfl⟩,rfl⟩) fun act Q hst hQ=>?_
 refine wp_seq (ec_g hG (ec_q0 pre g tp td hd bg a rs.length c) _ _ _ _ _ act w hst _ fun a1 w1 h1=>?_)
 refine wp_seq (ec_g hG (ec_q1 pre g tp td hd bg a rs.length c) _ _ _ _ _ a1 w1 h1 _ fun a2 w2 h2=>?_)
 refine wp_seq (ec_g hG (ec_q2 pre g tp td hd bg a rs.length c) _ _ _ _ _ a2 w2 h2 _ fun a3 w3 h3=>?_)
 refine wp_seq (wp_seq (ec_g hG (ec_q3 pre g tp td hd bg a rs.length c) _ _ _ _ _ a3 w3 h3 _ fun a4 w4 h4=>?_))
 refine wp_block (wp_loop_rounds (rs.length + 1) (ec_rounds hG hat rs.length 0 crf0 bg a4 w4 (by omega) (by rw [List.drop_zero]; exact hok) (fun a5 w5 cr' tk' ht h5=>?_) (fun a5 w5 s' hf h5 hr=>?_) h4))
 ·simp only [Exit.inBlock,if_true]
  rw [List.drop_zero] at ht
  refine ec_g hG (ec_q16 pre g tp td hd bg tk' rs.length a rs.length c cr') _ _ _ _ _ a5 w5 h5 _ fun a6 w6 h6=>?_
  exact hQ .ret a6 w6 _ _ _ (.inr rfl) h6 (ec_res ..) rfl (by rw [ht])
 ·rw [List.drop_zero] at hf
  exact hQ .ret a5 w5 _ _ _ (.inr rfl) h5 hr rfl (by rw [hf])
end
end Go.Ab
set_option linter.unusedSimpArgs false
namespace Go.Ab
open Go Go.Proofs
def andV (a b:Int):Int:=IntKind.i64.wrap ((BitVec.ofInt IntKind.i64.bits a &&& BitVec.ofInt IntKind.i64.bits b).toNat:Int)
def yesB (b:Bool):Option (AV×List Con):=some (.val (.bool b),[])
def gapsT (b:Crf):Option (AV×List Con):=bif b.plan.mode == 1 then bif decide (andV b.plan.faults 1 > 0) then yesB true else yesB (b.plan.mode == 3) else yesB (b.plan.mode == 3)
theorem gaps18 (a b:Crf) (t:Tl) (s:ByteArray):fnSum Tryz.prog { gam:=[] } [] 20 18 [.val (Cod.enc a),.val (Cod.enc b),.val (Cod.enc t),.val (.string s)] [] =
  bif a.plan.mode != 2 then yesB true else bif decide (IntKind.i64.wrap (b.tk - a.tk)≥10) then bif decide (IntKind.i64.wrap (b.tk - a.tk)≤10000) then yesB true else gapsT b else gapsT b:=by kernel_rfl
def gapsE (b:Crf):Bool:=bif b.plan.mode == 1 then bif decide (andV b.plan.faults 1 > 0) then true else b.plan.mode == 3 else b.plan.mode == 3
def gapsV (p:HoldA):Bool:=bif p.1.plan.mode != 2 then true else bif decide (IntKind.i64.wrap (p.2.1.tk - p.1.tk)≥10) then bif decide (IntKind.i64.wrap (p.2.1.tk - p.1.tk)≤10000) then true else gapsE p.2.1 else gapsE p.2.1
theorem yes_cond (c x y:Bool):(bif c then yesB x else yesB y)=yesB (bif c then x else y):=by cases c <;> rfl
theorem okGaps:SumOk Tryz.prog 18 (S0 gapsV):=S0_ok (E:={ gam:=[] }) GamOk.nil 20 fun p=>by
 obtain ⟨a,b,t,s,_⟩:=p
 refine (gaps18 a b t s).trans ?_
 unfold gapsT
 simp only [yes_cond]
 rfl
theorem and_fin:∀ n:Fin 16,andV (orV n.val 1) 1 > 0:=by decide +kernel
theorem and_one {f:Int} (h:0≤f∧f≤15):andV (orV f 1) 1 > 0:=by
 obtain ⟨n,rfl⟩:∃ n:Nat,f=n:=⟨f.toNat,by omega⟩
 exact and_fin ⟨n,by omega⟩
theorem wrapU (x:Int):IntKind.u64.wrap x=x % 18446744073709551616:=by simp [IntKind.wrap,IntKind.bits,IntKind.signed]
theorem gap_none {c:Crf} {tk:Int} (hc:CIn c) (ht:isTick tk=true) (hl:c.on=true→c.tk < tk) (hd:¬ (IntKind.i64.wrap (tk - c.tk)≥10∧IntKind.i64.wrap (tk - c.tk)≤10000)):gapV c tk=0:=by
 obtain ⟨t0,t1⟩:=tick_in ht
 obtain ⟨c0,c1⟩:=hc.tk
 unfold gapV
 cases hon:c.on with
 | false=>rfl
 | true =>
  have hlt:=hl hon
  have e:gapD tk c.tk=tk - c.tk:=by
   unfold gapD
   rw [wrapU,wrapU,wrapU]
   omega
  have e2:IntKind.i64.wrap (tk - c.tk)=tk - c.tk:=by rw [wrapM]; omega
  rw [e2] at hd
  rw [e,cond_true]
  by_cases h10:tk - c.tk≥10
  ·rw [decide_eq_true h10,decide_eq_false (by omega),cond_true,cond_false]
  ·rw [decide_eq_false h10,cond_false]
theorem late_no {c:Crf} {tk:Int} (h:lateX c ST.rt tk=false):isTick tk=true∧(c.on=true→c.tk < tk):=by
 unfold lateX at h
 have hr:ST.rt (tk,())=isTick tk:=rfl
 rw [hr] at h
 cases ht:isTick tk with
 | false=>rw [ht] at h; cases h
 | true =>
  rw [ht,Bool.not_true,cond_false] at h
  refine ⟨rfl,fun hon=>?_⟩
  rw [hon,cond_true] at h
  have :=of_decide_eq_false h
  omega
theorem plan_gap {tk gap:Int} {N:Nat} {y:CX} (h:XIn tk gap true 2 N y):(planX y).2.1.plan=toV 3 y.2.1.plan.faults ∨ (planX y).2.1.plan=toV 1 (orV y.2.1.plan.faults 1):=by
 have hn:nextV y.2.1.plan y.1.seen=toV 3 y.2.1.plan.faults ∨ nextV y.2.1.plan y.1.seen=toV 1 (orV y.2.1.plan.faults 1):=by
  unfold nextV
  rw [h.mode]
  cases y.1.seen.order == 1 with
  | true=>exact .inl rfl
  | false =>
   refine .inr ?_
   rw [show ((2:Int) == 3)=false from rfl,show ((2:Int) == 0)=false from rfl,show ((2:Int) == 1)=false from rfl,show ((2:Int) == 2)=true from rfl]
   unfold fineV
   rw [h.seen]
   rfl
 have key:∀ p:Pl,(p.mode == 2)=false→nextV y.2.1.plan y.1.seen=p→(planX y).2.1.plan=p:=by
  intro p hp he
  unfold planX planO
  dsimp only
  have e1:((nextV y.2.1.plan y.1.seen).mode == 2)=false:=by rw [he]; exact hp
  have e2:((nextV y.2.1.plan y.1.seen).mode != 2)=true:=by simp [bne,e1]
  rw [e1,e2,cond_false,cond_true]
  exact he
 rcases hn with hn | hn
 ·exact .inl (key _ rfl hn)
 ·exact .inr (key _ rfl hn)
theorem gaps_step {c:Crf} {tk:Int} {b:ByteArray} (hc:CIn c) (hl:lateX c ST.rt tk=false) (t:Tl):gapsV (c,(endX ST tk (cstH ST c tk b)).2.1,t,b,())=true:=by
 obtain ⟨ht,hon⟩:=late_no hl
 have hx:XIn tk (gapV c tk) (gapV c tk == 0) c.plan.mode (c.left.size + b.size) (cstH ST c tk b):=(hc.start tk (by omega)).heard b (Nat.le_refl _)
 have hy:=hx.ahead
 have htk:(endX ST tk (cstH ST c tk b)).2.1.tk=tk:=rfl
 have hpl:(endX ST tk (cstH ST c tk b)).2.1.plan=(planX (cstF ST (ST.lk (cstD ST (cstH ST c tk b))))).2.1.plan:=rfl
 unfold gapsV
 dsimp only
 rw [htk]
 cases hm:c.plan.mode != 2 with
 | true=>rfl
 | false =>
  rw [cond_false]
  have hm2:c.plan.mode=2:=by simpa using hm
  have fin:gapV c tk=0→gapsE (endX ST tk (cstH ST c tk b)).2.1=true:=by
   intro hg
   rw [hg,hm2] at hy
   have hf:=hy.pl.faults
   unfold gapsE
   rw [hpl]
   rcases plan_gap hy with e | e
   ·rw [e]
    rfl
   ·rw [e]
    show (bif decide (andV (orV _ 1) 1 > 0) then true else (1:Int) == 3)=true
    rw [decide_eq_true (and_one hf)]
    rfl
  by_cases h10:IntKind.i64.wrap (tk - c.tk)≥10
  ·rw [decide_eq_true h10,cond_true]
   by_cases h4:IntKind.i64.wrap (tk - c.tk)≤10000
   ·rw [decide_eq_true h4]; rfl
   ·rw [decide_eq_false h4,cond_false]
    exact fin (gap_none hc ht hon fun h=>h4 h.2)
  ·rw [decide_eq_false h10,cond_false]
   exact fin (gap_none hc ht hon fun h=>h10 h.1)
theorem told_neC (x:CX):((cstT ST x).toList == (⟨#[]⟩:ByteArray).toList)=false:=by
 obtain ⟨l,h⟩:=told_some x
 rw [h,ByteArray.toList_eq,ByteArray.toList_eq,data_bsL]
 rfl
theorem each_holds {hd:HoldA→Bool} (hh:∀ (c:Crf) (tk:Int) (b:ByteArray),CIn c→lateX c ST.rt tk=false→hd (c,(endX ST tk (cstH ST c tk b)).2.1,tellX (endX ST tk (cstH ST c tk b)),b,())=true) :
  ∀ (rs:List Rec) (c:Crf) (tk:Int),CIn c→c.left.size + (rs.map fun r=>r.2.size).sum≤1099511627776→EachOk craftPre craftV toldPre c tk rs∧eachV craftV toldV hd c tk rs=true
 | [],_,_,_,_=>⟨trivial,rfl⟩
 | r :: t,c,tk,hc,hs=>by
  simp only [List.map_cons,List.sum_cons] at hs
  cases hl:lateX c ST.rt (laterV tk r.1) with
  | true =>
   have e:craftV (c,laterV tk r.1,r.2,())=⟨c,⟨#[]⟩⟩:=by unfold craftV stepO; dsimp only; rw [hl]; rfl
   have hp:craftPre (c,laterV tk r.1,r.2,())=true:=by unfold craftPre stepPreO; dsimp only; rw [hl]; rfl
   obtain ⟨i1,i2⟩:=each_holds hh t c (laterV tk r.1) hc (by omega)
   have em:((⟨#[]⟩:ByteArray).toList == (⟨#[]⟩:ByteArray).toList)=true:=by simp
   constructor
   ·unfold EachOk
    rw [e]
    exact ⟨hp,fun _=>i1,fun h=>(by rw [em] at h; cases h)⟩
   ·unfold eachV
    rw [e]
    dsimp only
    rw [em,crfK_self,cond_true]
    exact i2
  | false =>
   obtain ⟨ht,hon⟩:=late_no hl
   generalize hk:laterV tk r.1=k at *
   have hx:XIn k (gapV c k) (gapV c k == 0) c.plan.mode (c.left.size + r.2.size) (cstH ST c k r.2):=(hc.start k (by omega)).heard r.2 (Nat.le_refl _)
   have hi:=end_in hx ht
   have hleft:=end_left hx
   have htk:(endX ST k (cstH ST c k r.2)).1.tk=k:=step_tk hx k
   obtain ⟨b1,b2⟩:=told_back (x:=endX ST k (cstH ST c k r.2)) hi (by rw [htk]; exact ht)
   have e:craftV (c,k,r.2,())=⟨(endX ST k (cstH ST c k r.2)).2.1,cstT ST (endX ST k (cstH ST c k r.2))⟩:=by unfold craftV stepO; dsimp only; rw [hl]; rfl
   have hp:craftPre (c,k,r.2,())=true:=by
    unfold craftPre stepPreO
    dsimp only
    rw [hl,cond_false]
    have h1:ST.hp (stp1 c k,c,rds0) (r.2,())=true:=decide_eq_true (by show c.left.size + r.2.size≤_; omega)
    rw [h1,hx.driftOk]
    rfl
   have hne:=told_neC (endX ST k (cstH ST c k r.2))
   obtain ⟨i1,i2⟩:=each_holds hh t (endX ST k (cstH ST c k r.2)).2.1 k hi (by omega)
   constructor
   ·unfold EachOk
    rw [hk,e]
    exact ⟨hp,fun h=>(by rw [hne] at h; cases h),fun _=>⟨b1,i1⟩⟩
   ·unfold eachV
    rw [hk,e]
    dsimp only
    rw [hne,cond_false,b2]
    dsimp only
    rw [hh c k r.2 hc hl]
    exact i2
end Go.Ab
set_option linter.unusedSimpArgs false
namespace Go.Ab
open Go Go.Proofs
noncomputable def wgR:Nat→Code
 | 0=>Tryz.f4.body.getD .skip
 | k + 1=>seqR (wgR k)
noncomputable def wgL (k:Nat):Code:=seqL (wgR k)
noncomputable def wgO3:Array Oper:=regO (seqL (wgL 2))
noncomputable def wgO5:Array Oper:=regO (seqL (wgR 3))
theorem wg_is:Tryz.f4.body=some (.seq (wgL 0) (.seq (wgL 1) (.seq (.seq (.region 3 wgO3 false) (seqR (wgL 2))) (.seq (.region 5 wgO5 false) .ret)))):=by kernel_rfl
theorem f4_at:Tryz.prog.funcs[4]?=some Tryz.f4:=by kernel_rfl
theorem f4_N:Tryz.f4.ntmps=10:=by kernel_rfl
theorem f14_on : (Tryz.f14.body.isSome && !Tryz.f14.name == "runtime.NumGoroutine") = true := by kernel_rfl
theorem f15_on : (Tryz.f15.body.isSome && !Tryz.f15.name == "runtime.NumGoroutine") = true := by kernel_rfl
def cLight:Call:={ callee:=.value (.func 14),args:=#[.tmp 5],argTypes:=#[24] }
def cEach:Call:={ callee:=.value (.func 15),args:=#[.tmp 8,.func 18],argTypes:=#[24,52] }
theorem wg3_1:sigOf wgO3 1=some (.call cLight,some 6,true):=by kernel_rfl
theorem wg3_n:List.range wgO3.size=(List.range (wgO3.toList.take 1).length).map (0 + ·) ++ (1 :: ((List.range (wgO3.toList.drop 2).length).map (2 + ·) ++ [])):=by kernel_rfl
theorem wg5_1:sigOf wgO5 1=some (.call cEach,some 9,true):=by kernel_rfl
theorem wg5_n:List.range wgO5.size=(List.range (wgO5.toList.take 1).length).map (0 + ·) ++ (1 :: ((List.range (wgO5.toList.drop 2).length).map (2 + ·) ++ [])):=by kernel_rfl
def wgGam:Gam:=[(13,S0 fun (_:Unit)=>true)]
theorem wgGam_ok:GamOk Tryz.prog wgGam:=.cons okLights .nil
def wgS (bg:Int) (a:Option Addr) (n c:Nat) (tm:List (Nat×AV)):St:=gSt 10 ([(1,.ptr 4096 0),(2,.val (.bool false))] ++ tm) [(4096,plRow bg a n c)] lN1
def plV (bg:Int) (a:Option Addr) (n c:Nat):Value:=.agg (List.toArray [.int .i64 bg,.slice a n c])
noncomputable abbrev wgRun (c:Code) (s:St) (ks ts:List Nat):Option (Ex×St):=gRun Tryz.prog { gam:=wgGam } 10 c s ks ts
noncomputable abbrev wgEnd (ts:List Nat):St→List Foot→Option (Bool×St):=endOps [4096] (restN 10 ts)
section
variable (bg:Int) (a:Option Addr) (n c:Nat) (t:Bool)
theorem wg_q0:wgRun (wgL 0) (startS 10 [.val (.agg #[.int .i64 bg,.slice a n c])] []) [4096] [1,2]=some (.normal,wgS bg a n c []):=by kernel_rfl
theorem wg_q1:wgRun (wgL 1) (wgS bg a n c []) [4096] [1,2]=some (.normal,wgS bg a n c []):=by kernel_rfl
theorem wg_q3:opsRun Tryz.prog (callN Tryz.prog { gam:=wgGam } 4 (Bool×St)) (isSum wgGam) 10 wgO3 (wgO3.toList.take 1) (wgS bg a n c []) [] (wgEnd [1,2,5])=some (true,wgS bg a n c [(5,.val (plV bg a n c))]):=by kernel_rfl
theorem wg_q3b:opsRun Tryz.prog (callN Tryz.prog { gam:=wgGam } 4 (Bool×St)) (isSum wgGam) 10 wgO3 (wgO3.toList.drop 2) { wgS bg a n c [(5,.val (plV bg a n c))] with tmps:=(wgS bg a n c [(5,.val (plV bg a n c))]).tmps.set 6 (.val (.bool t)) } [] (wgEnd [1,2,7])=some (true,wgS bg a n c [(7,.val (.bool (!t)))]):=by kernel_rfl
theorem wg_q4:wgRun (seqR (wgL 2)) (wgS bg a n c [(7,.val (.bool t))]) [4096] [1,2]=bif t then some (.ret,{ wgS bg a n c [] with tmps:=(wgS bg a n c []).tmps.set 2 (.val (.bool true)) }) else some (.normal,wgS bg a n c []):=by kernel_rfl
theorem wg_q5:opsRun Tryz.prog (callN Tryz.prog { gam:=wgGam } 4 (Bool×St)) (isSum wgGam) 10 wgO5 (wgO5.toList.take 1) (wgS bg a n c []) [] (wgEnd [1,2,8])=some (true,wgS bg a n c [(8,.val (plV bg a n c))]):=by kernel_rfl
theorem wg_q5b:opsRun Tryz.prog (callN Tryz.prog { gam:=wgGam } 4 (Bool×St)) (isSum wgGam) 10 wgO5 (wgO5.toList.drop 2) { wgS bg a n c [(8,.val (plV bg a n c))] with tmps:=(wgS bg a n c [(8,.val (plV bg a n c))]).tmps.set 9 (.val (.bool t)) } [] (wgEnd [1,2])=some (true,{ wgS bg a n c [] with tmps:=(wgS bg a n c []).tmps.set 2 (.val (.bool t)) }):=by kernel_rfl
theorem wg_res:resA Tryz.prog { wgS bg a n c [] with tmps:=(wgS bg a n c []).tmps.set 2 (.val (.bool t)) } Tryz.f4.results.toList=some [.val (.bool t)]:=by kernel_rfl
theorem wg_len5 (v:Value):(wgS bg a n c [(5,.val v)]).tmps.length=10:=by kernel_rfl
theorem wg_len8 (v:Value):(wgS bg a n c [(8,.val v)]).tmps.length=10:=by kernel_rfl
end
theorem sum_small:∀ (rs:List Rec) (s:Int),(∀ r ∈ rs,r.2.size≤140737488355328)→0≤s→s≤3000→lgSum s rs=true→s + ((rs.map fun r=>r.2.size).sum:Nat)≤3000
 | [],s,_,_,h,_=>by simpa using h
 | r :: t,s,hz,h0,h1,h=>by
  have hr:=hz r (List.mem_cons_self ..)
  have e:wI (s + (r.2.size:Int))=s + (r.2.size:Int):=wI_id (by omega) (by omega)
  unfold lgSum at h
  rw [e] at h
  by_cases hb:s + (r.2.size:Int) > 3000
  ·rw [decide_eq_true hb] at h; cases h
  ·rw [decide_eq_false hb,cond_false] at h
   have :=sum_small t _ (fun x hx=>hz x (List.mem_cons_of_mem _ hx)) (by omega) (by omega) h
   simp only [List.map_cons,List.sum_cons]
   omega
theorem gaps_gam:GamOk Tryz.prog (ecGam craftPre craftV toldPre toldV gapsV):=.cons okCraft (.cons okTold (.cons okGaps .nil))
theorem wg_calls (bg:Int) (a:Option Addr) (c:Nat) (rs:List Rec) (w:World) (hat:RecAt w a rs.length rs) (hz:∀ r ∈ rs,r.2.size≤140737488355328) :
  Calls Tryz.prog 4 #[.agg #[.int .i64 bg,.slice a rs.length c]] w fun e w'=>∃ v,e=.returned v∧RowKit.Below w.heap.size w w'∧v=.bool true:=by
 have gr:∀ {cd:Code} {s s1:St} {ks ts:List Nat} {e:Ex},wgRun cd s ks ts=some (e,s1)→RunsTo Tryz.prog 10 cd s e s1:=fun h=>gRun_runs (E:={ gam:=wgGam }) wgGam_ok h
 refine calls_by (vals:=[.agg #[.int .i64 bg,.slice a rs.length c]]) (args:=[.val (.agg #[.int .i64 bg,.slice a rs.length c])]) f4_at wg_is f4_N (by show 1≤10; omega) w (by simp only [Rels,Rel]; exact ⟨_,_,rfl,rfl,rfl⟩) fun act Q hst hQ=>?_
 refine wp_seq (gr (wg_q0 bg a rs.length c) _ _ _ _ _ act w hst _ fun a1 w1 h1=>?_)
 refine wp_seq (gr (wg_q1 bg a rs.length c) _ _ _ _ _ a1 w1 h1 _ fun a2 w2 h2=>?_)
 have later:∀ {s:St} {ax:Act} {wx:World},StFits 10 w noOwn noName 4096 (4096 + 2 ^ 200) s ax wx→RecAt wx a rs.length rs:=fun h=>hat.later (by obtain ⟨_,_,hf,_⟩:=h; exact hf.grown) fun k hk=>h.far hk fun h=>h
 refine wp_seq (wp_seq (wp_region ?_))
 rw [wg3_n]
 refine ops_fit (callN_ok (E:={ gam:=wgGam }) wgGam_ok 4 _) [4096] _ (wg_q3 bg a rs.length c) (fun _ _ hj=>take_at hj) h2 _ fun a3 w3 h3=>?_
 have harg:cLight.args.map a3.eval=#[plV bg a rs.length c]:=by
  have:a3.eval (.tmp 5)=plV bg a rs.length c:=h3.eval (t:=5) rfl
  simp [cLight,this]
 refine call_else wg3_1 (by omega) (wg_len5 ..) h3 rfl f14_is f14_on harg (light_calls bg a c rs w3 (later h3)) _ fun v a4 w4 own1 σ1 hX _ _ _ h4 back=>?_
 subst hX
 refine ops_fit (callN_ok (E:={ gam:=wgGam }) wgGam_ok 4 _) [4096] _ (wg_q3b bg a rs.length c (lightV bg rs)) (fun _ _ hj=>drop_at hj) h4 [] fun a5 w5 h5=>?_
 have h5:=back _ _ _ h5
 have q4:=wg_q4 bg a rs.length c (!lightV bg rs)
 cases hl:lightV bg rs with
 | false =>
  rw [hl] at h5 q4
  refine gr q4 _ _ _ _ _ a5 w5 h5 _ fun a6 w6 h6=>?_
  exact hQ .ret a6 w6 _ _ _ (.inr rfl) h6 (wg_res ..) rfl rfl
 | true =>
  rw [hl] at h5 q4
  refine gr q4 _ _ _ _ _ a5 w5 h5 _ fun a6 w6 h6=>?_
  refine wp_seq (wp_region ?_)
  rw [wg5_n]
  refine ops_fit (callN_ok (E:={ gam:=wgGam }) wgGam_ok 4 _) [4096] _ (wg_q5 bg a rs.length c) (fun _ _ hj=>take_at hj) h6 _ fun a7 w7 h7=>?_
  have harg:cEach.args.map a7.eval=#[plV bg a rs.length c,.func (.func 18) #[] #[]]:=by
   have h1:a7.eval (.tmp 8)=plV bg a rs.length c:=h7.eval (t:=8) rfl
   have h2:a7.eval (.func 18)=.func (.func 18) #[] #[]:=rfl
   simp [cEach,h1,h2]
  have hsum:(crf0.left.size + (rs.map fun r=>r.2.size).sum:Nat)≤1099511627776:=by
   have h1:lgSum 0 rs=true:=by
    unfold lightV at hl
    simp only [Bool.and_eq_true] at hl
    exact hl.1
   have :=sum_small rs 0 hz (by omega) (by omega) h1
   show 0 + _≤_
   omega
  obtain ⟨e1,e2⟩:=each_holds (hd:=gapsV) (fun c tk b hc hl=>gaps_step hc hl _) rs crf0 bg crf0_in hsum
  refine call_else wg5_1 (by omega) (wg_len8 ..) h7 rfl f15_is f15_on harg (each_calls gaps_gam bg a c rs w7 (later h7) e1) _ fun v a8 w8 own1 σ1 hX _ _ _ h8 back=>?_
  subst hX
  rw [e2] at h8
  refine ops_fit (callN_ok (E:={ gam:=wgGam }) wgGam_ok 4 _) [4096] _ (wg_q5b bg a rs.length c true) (fun _ _ hj=>drop_at hj) h8 [] fun a9 w9 h9=>?_
  have fin:Q .ret a9 w9:=hQ .ret a9 w9 _ _ _ (.inr rfl) (back _ _ _ h9) (wg_res ..) rfl rfl
  change Code.wp Tryz.prog .ret Q a9 w9
  exact wp_ret fin
end Go.Ab
set_option linter.unusedSimpArgs false
namespace Go.Ab
open Go Go.Proofs Go.WideShapes
section
variable {H:Type} {enc:TypeId×Value→H} {W:World} {base:Nat} {spare:Nat→Bool} {held:Bool}
theorem u2:Tryz.prog.underlying 2=some (.int .i64):=by kernel_rfl
theorem u9:Tryz.prog.underlying 9=some .string:=by kernel_rfl
theorem k2:Tryz.prog.cellsOf 2=1:=by kernel_rfl
theorem k9:Tryz.prog.cellsOf 9=1:=by kernel_rfl
theorem k22:Tryz.prog.cellsOf 22=1:=by kernel_rfl
theorem k24:Tryz.prog.cellsOf 24=2:=by kernel_rfl
theorem k70:Tryz.prog.cellsOf 70=2:=by kernel_rfl
theorem int_open {n:Nat} {c:Value} {x:DataW H×List MemPlace} (h:DataW.trod enc Tryz.prog W base spare held n 2 [c]=some x):∃ k,c=.int .i64 k∧x=(.lit (.int .i64 k),[]):=by
 cases n with
 | zero=>simp [DataW.trod] at h
 | succ n =>
  simp only [DataW.trod,u2] at h
  split at h <;> simp_all
theorem str_open {n:Nat} {c:Value} {x:DataW H×List MemPlace} (h:DataW.trod enc Tryz.prog W base spare held n 9 [c]=some x):∃ s,c=.string s∧x=(.lit (.string s.data.toList),[]):=by
 cases n with
 | zero=>simp [DataW.trod] at h
 | succ n =>
  simp only [DataW.trod,u9] at h
  split at h <;> simp_all
theorem rec_open {n:Nat} {cs:List Value} {x:DataW H×List MemPlace} (h:DataW.trod enc Tryz.prog W base spare held n 70 cs=some x):∃ k s,cs=[.int .i64 k,.string s]∧x=(.agg [.lit (.int .i64 k),.lit (.string s.data.toList)],[]):=by
 cases n with
 | zero=>simp [DataW.trod] at h
 | succ n =>
  simp only [DataW.trod,Tryz.underlying70,k70] at h
  split at h
  ·rename_i hl
   obtain ⟨c,d,rfl⟩:∃ c d,cs=[c,d]:=by
    rcases cs with _ | ⟨c,_ | ⟨d,_ | ⟨e,r⟩⟩⟩
    ·simp at hl
    ·simp at hl
    ·exact ⟨c,d,rfl⟩
    ·simp at hl
   ·simp only [Option.map_eq_some_iff] at h
    obtain ⟨xs,hxs,rfl⟩:=h
    simp only [List.mapM_cons,List.mapM_nil,k2,k9,List.drop_zero,List.take_succ_cons,List.take_zero,List.drop_succ_cons,Option.bind_eq_bind,Option.bind_eq_some_iff,Option.pure_def,Option.some.injEq] at hxs
    obtain ⟨y,hy,z,⟨y2,hy2,z2,rfl,rfl⟩,rfl⟩:=hxs
    obtain ⟨k,rfl,rfl⟩:=int_open hy
    obtain ⟨s,rfl,rfl⟩:=str_open hy2
    exact ⟨k,s,rfl,rfl⟩
  ·cases h
theorem play_open0 {n:Nat} {cs:List Value} {x:DataW H×List MemPlace} (h:DataW.trod enc Tryz.prog W base spare held n 24 cs=some x):∃ bg c y n',cs=[.int .i64 bg,c]∧DataW.trod enc Tryz.prog W base spare held n' 22 [c]=some y∧x=(.agg [.lit (.int .i64 bg),y.1],y.2):=by
 cases n with
 | zero=>simp [DataW.trod] at h
 | succ n =>
  simp only [DataW.trod,Tryz.underlying24,k24] at h
  split at h
  ·rename_i hl
   obtain ⟨c,d,rfl⟩:∃ c d,cs=[c,d]:=by
    rcases cs with _ | ⟨c,_ | ⟨d,_ | ⟨e,r⟩⟩⟩
    ·simp at hl
    ·simp at hl
    ·exact ⟨c,d,rfl⟩
    ·simp at hl
   ·simp only [Option.map_eq_some_iff] at h
    obtain ⟨xs,hxs,rfl⟩:=h
    simp only [List.mapM_cons,List.mapM_nil,k2,k22,List.drop_zero,List.take_succ_cons,List.take_zero,List.drop_succ_cons,Option.bind_eq_bind,Option.bind_eq_some_iff,Option.pure_def,Option.some.injEq] at hxs
    obtain ⟨y,hy,z,⟨y2,hy2,z2,rfl,rfl⟩,rfl⟩:=hxs
    obtain ⟨k,rfl,rfl⟩:=int_open hy
    exact ⟨k,d,y2,n,rfl,hy2,by simp⟩
  ·cases h
theorem okWide_agg {P:Program} {w:World} {r:Reach} {base:Nat} {t:TypeId} {v:Value} {fs:Array Field} (ht:P.underlying t=some (.struct fs)) (h:Value.okWide P w r base t v):∃ arr,v=.agg arr:=by
 simp only [Value.okWide,ht] at h
 obtain ⟨cs,rfl,_⟩:=h
 exact ⟨cs,rfl⟩
theorem list_of {P:Nat→Rec→Prop}:∀ n:Nat,(∀ i,i < n→∃ r,P i r)→∃ rs:List Rec,rs.length=n∧∀ i (hi:i < rs.length),P i rs[i]
 | 0,_=>⟨[],rfl,fun i hi=>by simp at hi⟩
 | n + 1,h=>by
  obtain ⟨rs,hl,hr⟩:=list_of n fun i hi=>h i (by omega)
  obtain ⟨r,hp⟩:=h n (by omega)
  refine ⟨rs ++ [r],by simp [hl],fun i hi=>?_⟩
  by_cases hlt:i < rs.length
  ·rw [List.getElem_append_left hlt]
   exact hr i hlt
  ·have e:i=n:=by simp at hi; omega
   subst e
   rw [List.getElem_append_right (by omega)]
   simpa [hl] using hp
theorem bulk_part {d:DataW H} {e n:Nat}:∀ {l:List (DataW H)},d ∈ l→n ∈ d.weights Tryz.prog e→n ∈ DataW.weightsAll Tryz.prog e l
 | [],h,_=>by cases h
 | x :: r,h,hn=>by
  simp only [DataW.weightsAll,List.mem_append]
  cases List.mem_cons.1 h with
  | inl e=>subst e; exact .inl hn
  | inr e=>exact .inr (bulk_part e hn)
theorem bytes70:Tryz.prog.bytesOf 70=24:=by kernel_rfl
theorem cell_block {w:World} {a:Addr} {v:Value} (h:w.cell? a=some v):a.block < w.heap.size:=by
 cases hb:w.heap[a.block]? with
 | none=>simp [World.cell?,hb] at h
 | some o=>exact (Array.getElem?_eq_some_iff.1 hb).1
set_option maxRecDepth 100000 in
theorem play_open {b0:Nat} {v0:Value} {d0:DataW H} {p0:List MemPlace} (hv:Value.okWide Tryz.prog W .any b0 24 v0) (h:DataW.Trod enc Tryz.prog W 0 spare held 24 v0 d0 p0) (hk:∀ n ∈ d0.weights Tryz.prog 24,n≤140737488355328) :
  ∃ (bg:Int) (a:Option Addr) (c:Nat) (rs:List Rec),v0=.agg #[.int .i64 bg,.slice a rs.length c]∧(∀ x ∈ p0,x.block < W.heap.size)∧RecAt W a rs.length rs∧∀ r ∈ rs,r.2.size≤140737488355328:=by
 obtain ⟨fuel,hf⟩:=h
 have hlt:=DataW.trod_lt fuel 24 _ _ hf
 obtain ⟨arr,rfl⟩:=okWide_agg Tryz.underlying24 hv
 obtain ⟨bg,c0,y,n',h1,h2,h3⟩:=play_open0 hf
 have harr:arr=#[.int .i64 bg,c0]:=by
  apply Array.toList_inj.1
  simpa [Value.cells] using h1
 subst harr
 simp only [Prod.mk.injEq] at h3
 obtain ⟨rfl,_⟩:=h3
 have hk2:∀ n ∈ y.1.weights Tryz.prog 22,n≤140737488355328:=fun n hn=>hk n (by
  simp only [DataW.weights,Tryz.underlying24]
  simp [DataW.weightsEach,DataW.weights,hn])
 rcases DataW.trod_slice Tryz.underlying22 h2 with ⟨e,_⟩ | ⟨a,len,cap,elems,rest,n,_,e,hy,_,_,_,hlen,hel,_⟩
 ·simp only [List.cons.injEq,and_true] at e
  subst e
  exact ⟨bg,none,0,[],rfl,hlt,⟨rfl,by show 0≤_; omega,fun i hi=>by simp at hi⟩,fun r hr=>by cases hr⟩
 ·simp only [List.cons.injEq,and_true] at e
  subst e
  rw [hy] at hk2
  simp only [DataW.weights,Tryz.underlying22,bytes70,List.mem_cons,List.mem_append] at hk2
  have hl2:=hk2 _ (.inl rfl)
  rw [List.length_map] at hl2
  obtain ⟨rs,r1,r2⟩:=list_of (P:=fun i r=>W.cells? 0 (a.add (i * 2)) 2=some [.int .i64 r.1,.string r.2]∧r.2.size≤140737488355328) len fun i hi=>by
   have he:=hel i hi
   have hi2:i < elems.length:=by omega
   rw [k70,List.getElem?_eq_getElem hi2] at he
   obtain ⟨cs',c1,c2⟩:=Option.bind_eq_some_iff.1 he
   obtain ⟨k,s,rfl,hx⟩:=rec_open c2
   refine ⟨(k,s),c1,?_⟩
   have hm:(elems[i]'hi2).1 ∈ elems.map (·.1):=List.mem_map.2 ⟨elems[i]'hi2,List.getElem_mem hi2,rfl⟩
   refine hk2 _ (.inr (.inl (bulk_part hm ?_)))
   rw [hx]
   simp only [DataW.weights,Tryz.underlying70]
   simp [DataW.weightsEach,DataW.weights]
  subst r1
  refine ⟨bg,some a,cap,rs,rfl,hlt,⟨rfl,by omega,fun i hi=>?_⟩,fun r hr=>?_⟩
  ·obtain ⟨hc,_⟩:=r2 i hi
   obtain ⟨_,_,hat⟩:=World.cells?_some hc
   have e0:=hat 0 (by omega)
   have e1:=hat 1 (by omega)
   rw [adds] at e0 e1
   have f0:W.cell? (a.add (i * 2 + 0))=some (.int .i64 rs[i].1):=e0
   have f1:W.cell? (a.add (i * 2 + 1))=some (.string rs[i].2):=e1
   exact ⟨a,rfl,by have :=cell_block f0; rwa [add_block] at this,f0,f1⟩
  ·obtain ⟨i,hi,rfl⟩:=List.getElem_of_mem hr
   exact (r2 i hi).2
end
end Go.Ab
/- What the words at a translation's head say, of any program. -/
namespace Go.Ab
theorem make_of {P : Program} {rest : List (List Char)} (h : behindMainWord (wordsSigns P.initOrder.toList) = "cut".toList :: rest) : P.make = some .cut := by
  unfold Program.make
  rw [h]
  kernel_rfl
theorem headLifts_of {P : Program} {rest : List (List Char)} (h : behindMainWord (wordsSigns P.initOrder.toList) = "cut".toList :: rest) : P.headLifts = [] := by
  unfold Program.headLifts
  rw [h]
  kernel_rfl
theorem liftsFinal_of {P : Program} {rest : List (List Char)} (h : behindMainWord (wordsSigns P.initOrder.toList) = "cut".toList :: rest) : P.liftsFinal = false := by
  unfold Program.liftsFinal
  rw [headLifts_of h, h]
  kernel_rfl
theorem mayEnter_of {P : Program} {rest : List (List Char)} (h : behindMainWord (wordsSigns P.initOrder.toList) = "cut".toList :: rest) (h1 : P.laysLater = false) (h2 : P.bearsReflect = false) (h3 : P.doorFits [] = true) : P.mayEnter = true := by
  have hs : stripLifts liftWords ("cut".toList :: rest) = ([], "cut".toList :: rest) := by kernel_rfl
  unfold Program.mayEnter
  rw [h]
  simp only [hs, h1, h2, h3]
  simp
end Go.Ab
