/- A part of the proofs: lemmas, no statement of their own; no condition. -/
import Derived.Test.YtoocjipllmkjcaaGreatGCrW
import Derived.Test.YtoocjipllmkjcaaGreatGCrQ
import Derived.Test.YtoocjipllmkjcaaGreatGMtJ
import Derived.Test.YtoocjipllmkjcaaGreatGRtF
set_option linter.unusedSimpArgs false
namespace Go.Ab
open Go Go.Proofs
def P4w(t:Th)(k:Int):Th:=bif k==1 then {t with b:=true} else bif k==2 then {t with c:=true} else {t with d:=true}
def thF(rd:Fr×Unit→Two Rdg Bool)(fr:Rdg×Int×Unit→Bool)(tk:Int)(t:Th)(f:Fr):Th:=bif (rd (f,())).b then bif fr ((rd (f,())).a,tk,()) then P4w t (rd (f,())).a.kind else t else t
section
variable {rd:Fr×Unit→Two Rdg Bool} {fr:Rdg×Int×Unit→Bool} (hG:GamOk Tryz.prog (W0n rd fr)) (hk:∀f,(rd (f,())).b=true→(rd (f,())).a.kind=1∨(rd (f,())).a.kind=2∨(rd (f,())).a.kind=3)
include hG
theorem en_g{c:Code}{s s1:St}{e:Ex}{ks ts:List Nat}(h:N0a rd fr c s ks ts=some (e,s1)):A0b Tryz.prog 98 c s e s1:=A0a (E:={gam:=W0n rd fr}) hG h
include hk
theorem V2d(a b:Crf)(l:Option Addr)(n c:Nat)(i:Int)(t:Th)(k:Int)(d:ByteArray):A0b Tryz.prog 98 (.seq (seqL (enT 1)) (enT 2)) (enF a b l n c i t k d) .normal (enI a b l n c i (thF rd fr b.tk t ⟨k,d⟩) (eN 6) [] []):=by
 have h1:=en_g hG (Z3r rd fr a b l n c i k t d)
 have hk:=hk ⟨k,d⟩
 unfold thF
 generalize rd (⟨k,d⟩,())=x at h1 hk ⊢
 obtain ⟨⟨kd,tk,w⟩,ok⟩:=x
 dsimp only at h1 hk ⊢
 refine h1.seq ?_
 cases ok with
 | false=>exact en_g hG (A5t rd fr a b l n c i t _)
 | true =>
  rw[cond_true]
  rcases hk rfl with e | e | e
  ·subst e
   refine en_g hG ((Z3t rd fr a b l n c i tk t w).trans ?_)
   cases fr (⟨1,tk,w⟩,b.tk,())<;>rfl
  ·subst e
   refine en_g hG ((Z3w rd fr a b l n c i tk t w).trans ?_)
   cases fr (⟨2,tk,w⟩,b.tk,())<;>rfl
  ·subst e
   refine en_g hG ((Z3x rd fr a b l n c i tk t w).trans ?_)
   cases fr (⟨3,tk,w⟩,b.tk,())<;>rfl
theorem E2r{w1:World}{own1:Nat→Prop}{σ1:Nat→Option Nat}{hi1:Nat}{fs:List Fr}{l:Option Addr}{c:Nat}(hat:Y0t w1 (.slice l fs.length c) fs)(hno:∀r,(Value.slice l fs.length c).ownBlock=some r→r<w1.heap.size∧¬ own1 r)
  (hnone:∀b,eN 4≤b→b<hi1→σ1 b=none) (hhi:hi1=4096+2^200) (a b:Crf) {Q:Exit→Act→World→Prop} :
  ∀(m i:Nat) (t:Th) (act:Act) (w:World),i+m=fs.length→(∀a' w',A0j 98 w1 own1 σ1 (eN 4) hi1 (enI a b l fs.length c fs.length ((fs.drop i).foldl (thF rd fr b.tk) t) (eN 4) [] []) a' w'→Q (.exit 2) a' w') →
   A0j 98 w1 own1 σ1 (eN 4) hi1 (enI a b l fs.length c i t (eN 4) [] []) act w→Code.rounds Tryz.prog (.seq (seqL enB) (.seq (seqL (seqR enB)) (.seq (.block 3 (.seq (.region 17 J1d false) (.seq (seqL (enT 1)) (enT 2)))) (seqR (seqR (seqR enB)))))) Q (m+1) act w:=by
 intro m
 induction m with
 | zero =>
  intro i t act w hi hQ hst
  have hi':i=fs.length:=by omega
  rw[rounds_succ]
  refine wp_seq (en_g hG (B3u rd fr a b l fs.length c i t) w1 own1 σ1 (eN 4) hi1 act w hst _ fun a1 w1' h1=>?_)
  have hb:decide ((i:Int)<(fs.length:Int))=false:=decide_eq_false (by omega)
  rw[hb]at h1
  refine wp_seq (en_g hG (Z3z rd fr a b l fs.length c i t false) w1 own1 σ1 (eN 4) hi1 a1 w1' h1 _ fun a2 w2 h2=>?_)
  refine hQ a2 w2 ?_
  rw[List.drop_of_length_le (by omega),← hi']
  rw[hi']at h2 ⊢
  exact h2
 | succ m ih =>
  intro i t act w hi hQ hst
  rw[rounds_succ]
  refine wp_seq (en_g hG (B3u rd fr a b l fs.length c i t) w1 own1 σ1 (eN 4) hi1 act w hst _ fun a1 w1' h1=>?_)
  have hlt:i<fs.length:=by omega
  have hb:decide ((i:Int)<(fs.length:Int))=true:=decide_eq_true (by omega)
  rw[hb]at h1
  refine wp_seq (en_g hG (Z3z rd fr a b l fs.length c i t true) w1 own1 σ1 (eN 4) hi1 a1 w1' h1 _ fun a2 w2 h2=>?_)
  refine wp_seq (wp_block (wp_seq (wp_region ?_)))
  rw[Z3k]
  have hat2:Y0t w2 (.slice l fs.length c) fs:=hat.keep fun r hr=>h2.far (hno r hr).1 (hno r hr).2
  obtain ⟨r,c',hv,_,hc0,hc1⟩:=hat2.elem hlt
  cases hv
  obtain ⟨ti,hti,hs,_,_⟩:=E1y
  refine K0q Z3h (by omega) (E2q ..) v33 hti h2 (b:=⟨r,0,none⟩) (len:=fs.length) (cap:=c) (i:=i) (ik:=.i64) (h2.eval (t:=56) rfl) (h2.eval (t:=58) rfl) hlt _ fun a3 h3=>?_
  have ead:(⟨r,0,none⟩:Addr).add (i*ti.size)=⟨r,i*2,none⟩:=by rw[hs,G0a,Nat.zero_add]
  rw[ead]at h3
  refine N0g Z3j (by omega) (by rw[List.length_set];exact E2q ..) h3 (b:=⟨r,i*2,none⟩) (h3.eval (t:=60) (by rw[List.getElem?_set_self (by rw[E2q];omega)])) (Q1u (k:=fs[i].kind) (d:=fs[i].data) hc0 hc1) _ fun a4 h4=>?_
  refine D0z (B0b (E:={gam:=W0n rd fr}) hG 4 _) [4096,eN 1,eN 3,eN 4] _ (Z3q rd fr a b (some ⟨r,0,none⟩) ⟨r,i*2,none⟩ fs.length c i fs[i].kind t fs[i].data) (fun _ _ hj=>D0k hj) h4 [] fun a5 w5 h5=>?_
  refine V2d hG hk a b (some ⟨r,0,none⟩) fs.length c i t fs[i].kind fs[i].data w1 own1 σ1 (eN 4) hi1 a5 w5 h5 _ fun a6 w6 h6=>?_
  simp only[Ex.to,Exit.inBlock]
  have h8:A0j 98 w1 own1 σ1 (eN 4) hi1 (enI a b (some ⟨r,0,none⟩) fs.length c i (thF rd fr b.tk t fs[i]) (eN 4) [] []) a6 w6:=h6.lower hnone (A5e ..) (by rw[hhi];rfl)
  refine en_g hG (Z3u rd fr a b (some ⟨r,0,none⟩) fs.length c i _) w1 own1 σ1 (eN 4) hi1 a6 w6 h8 _ fun a7 w7 h9=>?_
  have hw:IntKind.i64.wrap ((i:Int)+1)=((i+1:Nat):Int):=by have :=hat.small;rw[C0k];omega
  rw[hw]at h9
  refine ih (i+1) _ a7 w7 (by omega) (fun a' w' h'=>hQ a' w' ?_) h9
  rw[List.drop_eq_getElem_cons hlt,List.foldl_cons]
  exact h'
end
def enTh(p:R0y):Th:=(B0w (p.1.left++p.2.2.2.1).data.toList).1.foldl (thF C0j D0y p.2.1.tk) ⟨false,false,false,false⟩
def E2p(p:R0y):Bool:=bif p.1.plan.mode==1 then bif (enTh p).b then bif (enTh p).c then bif (enTh p).d then p.2.1.placed else false else false else false else false
def T0g(p:R0y):Bool :=
 bif p.2.1.plan.mode != 2 then sq4 p.2.2.1.q==0 else bif decide (sq4 p.2.2.1.q<268173312) then false else bif decide (sq4 p.2.2.1.q>268697600) then false else bif p.1.plan.mode==2 then true else E2p p
def Z3m(p:R0y):Bool:=decide (p.1.left.size+p.2.2.2.1.size≤1099511627776)
theorem R0h:GamOk Tryz.prog (W0n C0j D0y):=.cons N3q (.cons X2x .nil)
theorem Q1r(f:Fr)(h:(C0j (f,())).b=true):(C0j (f,())).a.kind=1∨(C0j (f,())).a.kind=2∨(C0j (f,())).a.kind=3:=by
 obtain ⟨k,d⟩:=f
 cases hb:P0h RD k d with
 | true =>
  have e:C0j (⟨k,d⟩,())=⟨⟨0,0,⟨0,0,0⟩⟩,false⟩:=by unfold C0j Q1q;dsimp only;rw[hb];rfl
  rw[e]at h
  cases h
 | false =>
  rw[V0n _ _ hb]at h ⊢
  cases ho:(rdT4 RD k d).ok with
  | false=>rw[ho]at h;cases h
  | true =>
   have:k=1∨k=2∨k=3:=by rcases L1e hb with ⟨e,_⟩ | ⟨e,_⟩ | ⟨e,_⟩<;>omega
   exact this
theorem Z3n(a b:Crf)(t:Tl)(s:ByteArray)(hp:Z3m (a,b,t,s,())=true):∃s',A0b Tryz.prog 98 (.seq (enL 0) (.seq (enL 1) (.seq (enL 2) (.seq (enL 3) (.seq (enL 4) (.seq (enL 5) (.seq (enL 6) (.seq (.region 14 enO7 false) (.seq (.seq (seqL (enL 8)) (.block 2 (.loop (.seq (seqL enB) (.seq (seqL (seqR enB)) (.seq (.block 3 (.seq (.region 17 J1d false) (.seq (seqL (enT 1)) (enT 2)))) (seqR (seqR (seqR enB))))))))) (enR 9)))))))))) (B0t 98 [.val (Cod.enc a),.val (Cod.enc b),.val (Cod.enc t),.val (.string s)] []) .ret s' ∧
  resA Tryz.prog s' Tryz.f40.results.toList=some [.val (.bool (T0g (a,b,t,s,())))]:=by
 have hs:a.left.size+s.size≤1099511627776:=of_decide_eq_true hp
 have h0:=en_g R0h (A5g C0j D0y a b t s)
 have h1:=en_g R0h (A5h C0j D0y a b t s)
 have h2:=en_g R0h (A5j C0j D0y a b t s)
 have q3:=A5k C0j D0y a b s (sq4 t.q)
 have q4:=A5m C0j D0y a b s (sq4 t.q)
 have q5:=A5n C0j D0y a b s
 unfold T0g
 dsimp only
 cases hm:b.plan.mode != 2 with
 | true =>
  rw[hm,cond_true]at q3
  exact ⟨_,h0.seq (h1.seq (h2.seq (A0b.seqR (en_g R0h q3)))),J1e ..⟩
 | false =>
 rw[hm,cond_false]at q3
 rw[cond_false]
 have h3:=en_g R0h q3
 cases hlo:decide (sq4 t.q<268173312) with
 | true =>
  rw[hlo,cond_true]at q4
  exact ⟨_,h0.seq (h1.seq (h2.seq (h3.seq (A0b.seqR (en_g R0h q4))))),J1e ..⟩
 | false =>
 rw[hlo,cond_false]at q4
 rw[cond_false]
 cases hhi:decide (sq4 t.q>268697600) with
 | true =>
  rw[hhi,cond_true]at q4
  exact ⟨_,h0.seq (h1.seq (h2.seq (h3.seq (A0b.seqR (en_g R0h q4))))),J1e ..⟩
 | false =>
 rw[hhi,cond_false]at q4
 rw[cond_false]
 have h4:=en_g R0h q4
 cases hf:a.plan.mode==2 with
 | true =>
  rw[hf,cond_true]at q5
  exact ⟨_,h0.seq (h1.seq (h2.seq (h3.seq (h4.seq (A0b.seqR (en_g R0h q5)))))),J1e ..⟩
 | false =>
 rw[hf,cond_false]at q5
 rw[cond_false]
 have h5:=en_g R0h q5
 have h6:=en_g R0h (A5p C0j D0y a b s)
 refine ⟨enV (E2p (a,b,t,s,())) (eN 4),h0.seq (h1.seq (h2.seq (h3.seq (h4.seq (h5.seq (h6.seq ?_)))))),G3k ..⟩
 intro w0 own σ0 lo0 hi0 act w hst Q hQ
 have hq7:=A5q C0j D0y a b s ⟨false,false,false,false⟩
 rw[decide_eq_false (by omega),cond_false]at hq7
 have hsz:(a.left++s).size=a.left.size+s.size:=ByteArray.size_append
 refine wp_seq (wp_region ?_)
 rw[A5c]
 refine D0z (B0b (E:={gam:=W0n C0j D0y}) R0h 4 _) EnK _ hq7 (fun _ _ hj=>L0b hj) hst _ fun a1 w1 h1=>?_
 have harg:D2y.args.map a1.eval=#[.string (a.left++s)]:=by
  have:a1.eval (.tmp 51)=.string (a.left++s):=h1.eval (t:=51) rfl
  simp[D2y,this]
 refine P0r A5b (by omega) (G3j ..) h1 rfl B3y A4h harg (V1t (a.left++s) (by omega) w1) _ fun v a2 w2 own1 σ1 hX hB hbd hnone h2 back=>?_
 have hth:enTh (a,b,t,s,())=(B0w (a.left++s).data.toList).1.foldl (thF C0j D0y b.tk) ⟨false,false,false,false⟩:=rfl
 generalize hsc:B0w (a.left++s).data.toList=sc at hX hth
 have hlen:sc.1.length≤1099511627776:=by
  have h3:=H1b _ (a.left++s).data.toList (Nat.le_refl _)
  have h4:(a.left++s).data.toList.length=(a.left++s).size:=rfl
  rw[hsc]at h3
  omega
 obtain ⟨v',rfl,hat,hown,_⟩:=Y1x hX hlen
 obtain ⟨ad,c,rfl⟩:=hat.val
 refine D0z (B0b (E:={gam:=W0n C0j D0y}) R0h 4 _) EnK _ (Z3y C0j D0y a b (a.left++s) (bsL sc.2.1) ad sc.1.length c sc.2.2 ⟨false,false,false,false⟩) (fun _ _ hj=>D0k hj) h2 [] fun a3 w3 h3=>?_
 refine wp_seq (wp_seq (en_g R0h (A5r C0j D0y a b ad sc.1.length c ⟨false,false,false,false⟩) _ _ _ _ _ a3 w3 h3 _ fun a4 w4 h4=>?_))
 refine wp_block (wp_loop_rounds (sc.1.length+1) (E2r R0h Q1r hat (fun r hr=>?_) hnone rfl a b sc.1.length 0 ⟨false,false,false,false⟩ a4 w4 (by omega) (fun a5 w5 h5=>?_) h4))
 ·obtain ⟨g1,g2⟩:=hown r hr
  exact ⟨g2,fun ho=>by have :=hbd r ho;omega⟩
 ·simp only[Exit.inBlock,if_true]
  rw[List.drop_zero,← hth]at h5
  have q22:=Z3v C0j D0y a b ad sc.1.length c sc.1.length (enTh (a,b,t,s,()))
  have e:N0a C0j D0y (enR 9) (enI a b ad sc.1.length c sc.1.length (enTh (a,b,t,s,())) (eN 4) [] []) [] [8]=some (.ret,enV (E2p (a,b,t,s,())) (eN 4)):=by
   rw[q22]
   unfold E2p
   dsimp only
   cases a.plan.mode==1
   ·rfl
   ·cases (enTh (a,b,t,s,())).b
    ·rfl
    ·cases (enTh (a,b,t,s,())).c
     ·rfl
     ·cases (enTh (a,b,t,s,())).d<;>rfl
  refine en_g R0h e _ _ _ _ _ a5 w5 h5 _ fun a6 w6 h6=>?_
  exact hQ a6 w6 (back _ _ _ h6)
theorem X2r:A0h Tryz.prog 40 (S0w Z3m T0g):=by
 intro args cs r cs' hs
 obtain ⟨⟨a,b,t,s,_⟩,hp,rfl,rfl,rfl,rfl⟩:=Z0n hs
 obtain ⟨s',h1,h2⟩:=Z3n a b t s hp
 exact E0k Z3p A5d en_N (by show 4≤98;omega) (by simp) rfl rfl rfl (.inr rfl) h1 h2 rfl rfl (fun _ _ h=>by simp at h) rfl rfl
abbrev U1k:Nat→Prop:=fun _=>False
abbrev N0x:Nat→Option Nat:=fun _=>none
theorem U0m{P:Program}{N:Nat}{f:FuncId}{fn:Func}{c:Code}(hfn:P.funcs[f]?=some fn)(hbody:fn.body=some c)(hN:fn.ntmps=N){args:List AV}{vals:List Value}(hle:args.length≤N)(w:World)(hv:Rels N0x args vals){X:Value→Prop}
  (H:∀(a:Act) (Q:Exit→Act→World→Prop),A0j N w U1k N0x 4096 (4096+2^200) (B0t N args []) a w→(∀(e:Ex) a' w' s' l v,(e=.normal∨e=.ret)→A0j N w U1k N0x 4096 (4096+2^200) s' a' w'→resA P s' fn.results.toList=some l→pack l=.val v→X v→Q e.to a' w')→c.wp P Q a w) :
  Calls P f (List.toArray vals) w fun e w'=>∃v,e=.returned v∧RowKit.Below w.heap.size w w'∧X v:=by
 subst hN
 have hlen:=Rels.length hv
 refine calls_of_wp hfn hbody ?_
 have hargsR:Rels N0x (args++List.replicate (fn.ntmps-args.length) (.val undef)) (vals++List.replicate (fn.ntmps-args.length) undef):=Rels.append hv (Rels.undefs _ _)
 refine H _ _ ⟨N0x,(B0t fn.ntmps args []).u,⟨rfl,by simp;omega,fun t v hv=>?_,fun b e cs hb=>?_,fun b o hb=>?_,(fun _ _ _ h=>by cases h),(fun _ _ h=>by cases h),(fun _ _ _ _ _ h=>by cases h),(fun _ _ _ _ h=>by cases h),rfl,rfl,rfl,Nat.le_refl _,fun _ _ _=>rfl⟩,Sub.refl _,fun _ _ _=>rfl,Le.refl _,fun _ h _=>h,Nat.le_refl _,Nat.le_refl _⟩ ?_
 ·simp only[St.u,stU,B0t,Option.map_eq_some_iff,Con.av.injEq]at hv
  obtain ⟨x,hx,rfl⟩:=hv
  obtain ⟨y,hy,hrel⟩:=Rels.get hargsR hx
  refine ⟨y,?_,hrel⟩
  rw[← hy]
  have:(List.toArray vals++Array.replicate (fn.ntmps-(List.toArray vals).size) undef)=List.toArray (vals++List.replicate (fn.ntmps-args.length) undef):=by
   apply Array.toList_inj.1;simp[hlen]
  simp only[this,List.getElem?_toArray]
 ·simp[St.u,stU,B0t,numH,hget]at hb
 ·simp[St.u,stU,B0t,numH,hget]at hb
 ·intro e a' w' s' l v he hst hr hp hX
  obtain ⟨σ,u,hf,hs,_⟩:=hst
  obtain ⟨x,hx,hrel⟩:=N0k (P:=P) (fn:=fn) hf hs hr
  rw[hp]at hrel
  simp only[Rel]at hrel
  subst hrel
  have hb:RowKit.Below w.heap.size w w':=⟨hf.os,hf.tape,hf.output,hf.grown,fun k hk=>hf.frame k hk fun h=>h⟩
  rcases he with rfl | rfl
  ·exact bodyPost_end hx hf.defers ⟨_,rfl,hb,hX⟩
  ·exact bodyPost_ret hx hf.defers ⟨_,rfl,hb,hX⟩
def M0q(s:Int):List Rec→Bool
 | []=>true
 | r :: t=>bif decide (wI (s+(r.2.size:Int))>3000) then false else M0q (wI (s+(r.2.size:Int))) t
def R0p(bg:Int)(rs:List Rec):Bool:=M0q 0 rs&&(decide ((rs.length:Int)≤30)&&(decide (bg≥0)&&decide (bg≤157766400000)))
theorem W2j(bg:Int)(a:Option Addr)(n c:Nat)(s i:Int)(lo:Nat):A0p lN1 {lgI bg a n c s i []with lo:=lo}=true:=by kernel_rfl
theorem H2u(bg:Int)(a:Option Addr)(n c:Nat)(s i:Int):(lgI bg a n c s i []).tmps.length=35:=by kernel_rfl
theorem J3a(bg:Int)(a:Option Addr)(n c:Nat)(s i:Int)(lo:Nat):resA Tryz.prog {lgI bg a n c s i []with lo:=lo} Tryz.f14.results.toList=some [.val (.bool false)]:=by kernel_rfl
theorem J3b(b:Bool)(lo:Nat):resA Tryz.prog (lgV b lo) Tryz.f14.results.toList=some [.val (.bool b)]:=by kernel_rfl
abbrev T2y(w:World)(s:St)(a:Act)(w':World):Prop:=A0j 35 w U1k N0x 4096 (4096+2^200) s a w'
theorem lg_g{c:Code}{s s1:St}{e:Ex}{ks ts:List Nat}(h:D1q c s ks ts=some (e,s1)):A0b Tryz.prog 35 c s e s1:=A0a (E:={gam:=[]}) GamOk.nil h
theorem A0j.let_go{N:Nat}{w0:World}{own:Nat→Prop}{lo0 hi0 lo:Nat}{s:St}{a:Act}{w:World}(h:A0j N w0 own N0x lo0 hi0 s a w)(hok:A0p lo s=true)(hlo:lo0≤lo)(hhi:s.hi=hi0):A0j N w0 own N0x lo0 hi0 {s with lo:=lo} a w:=by
 obtain ⟨σ,u,hf,hs,hn,hl,ho,h1,h2⟩:=h
 simp only[A0p,Bool.and_eq_true,List.all_eq_true,Nat.blt_eq]at hok
 obtain ⟨hct,hch⟩:=hok
 have hblk:∀b c,s.u (.blk b)=some c→C0w lo hi0 b:=fun b c hb=>by
  have hm:=H0c (H:=s.heap) hb
  have :=(hch _ hm).1
  unfold C0w
  omega
 have hcl:∀l c,s.u l=some c→M1h lo hi0 c:=fun l c hl=>by
  cases l with
  | tmp t =>
   simp only[St.u,stU,Option.map_eq_some_iff]at hl
   obtain ⟨x,hx,rfl⟩:=hl
   intro b hb
   have :=hct x (List.mem_of_getElem? hx) b hb
   unfold C0w
   omega
  | blk b =>
   have hm:=H0c (H:=s.heap) hl
   have :=(hch _ hm).2
   cases c with
   | av x=>intro d hd;have :=this d hd;unfold C0w;omega
   | row e cs=>intro d hd;have :=this d hd;unfold C0w;omega
   | obj o=>trivial
 have hw:Fits N w0 own σ s.u a w:=hf.sub hs
 refine ⟨cutσ σ lo hi0,s.u,?_,Sub.refl _,fun b hb1 hb2=>?_,fun b r hb=>(by cases hb),fun b hb1 hb2=>?_,hlo,h2⟩
 ·refine {hw with tmp:=fun t v hv=>?_,row:=fun b e cs hb=>?_,obj:=fun b o hb=>?_,inj:=fun b b' r h1 h2=>hw.inj b b' r (A0x h1) (A0x h2),bound:=fun b r hb=>hw.bound b r (A0x hb),ownsR:=fun b e cs r hb hr=>hw.ownsR b e cs r hb (A0x hr),ownsO:=fun b o r hb hr=>hw.ownsO b o r hb (A0x hr)}
  ·obtain ⟨x,h3,h4⟩:=hw.tmp t v hv
   exact ⟨x,h3,Rel.cut v x (hcl _ _ hv) h4⟩
  ·obtain ⟨r,vs,h3,h4,h5⟩:=hw.row b e cs hb
   exact ⟨r,vs,by rw[B0k (hblk b _ hb)];exact h3,h4,Rels.cut cs vs (hcl _ _ hb) h5⟩
  ·obtain ⟨r,o',h3,h4,h5⟩:=hw.obj b o hb
   exact ⟨r,o',by rw[B0k (hblk b _ hb)];exact h3,h4,h5⟩
 ·have hb2:b<hi0:=by rw[← hhi];exact hb2
  unfold cutσ
  rw[if_pos ⟨hb1,hb2⟩]
 ·have :=ho b hb1 hb2
  unfold cutσ
  split
  ·rfl
  ·exact this
theorem adds(a:Addr)(i j:Nat):(a.add i).add j=a.add (i+j):=by
 unfold Addr.add
 by_cases hi:i=0<;>by_cases hj:j=0<;>simp[hi,hj,Nat.add_assoc]
theorem H2v{w:World}{bg:Int}{a:Option Addr}{c:Nat}{rs:List Rec}(hat:RecAt w a rs.length rs){Q:Exit→Act→World→Prop} :
  ∀(m i:Nat) (s:Int) (act:Act) (w':World),i+m=rs.length→(∀a' w2 s',M0q s (rs.drop i)=true→T2y w (lgI bg a rs.length c s' rs.length []) a' w2→Q (.exit 0) a' w2) →
   (∀a' w2 s' i' lo,M0q s (rs.drop i)=false→T2y w {lgI bg a rs.length c s' i' []with lo:=lo} a' w2→Q .ret a' w2)→T2y w (lgI bg a rs.length c s i []) act w' →
   Code.rounds Tryz.prog (.seq (seqL lgB) (.seq (seqL (seqR lgB)) (.seq (.block 1 (.seq (.region 4 lgO4 false) (seqR lgB1))) (seqR (seqR (seqR lgB)))))) Q (m+1) act w':=by
 intro m
 induction m with
 | zero =>
  intro i s act w' hi hQ _ hst
  have hi':i=rs.length:=by omega
  subst hi'
  rw[rounds_succ]
  refine wp_seq (lg_g (C4k bg s rs.length a rs.length c) _ _ _ _ _ act w' hst _ fun a1 w1 h1=>?_)
  rw[decide_eq_false (by omega)]at h1
  refine wp_seq (lg_g (C4m bg s rs.length a rs.length c false) _ _ _ _ _ a1 w1 h1 _ fun a2 w2 h2=>?_)
  exact hQ a2 w2 s (by rw[List.drop_of_length_le (Nat.le_refl _)];rfl) h2
 | succ m ih =>
  intro i s act w' hi hQ hR hst
  rw[rounds_succ]
  have hlt:i<rs.length:=by omega
  refine wp_seq (lg_g (C4k bg s i a rs.length c) _ _ _ _ _ act w' hst _ fun a1 w1 h1=>?_)
  rw[decide_eq_true (by omega)]at h1
  refine wp_seq (lg_g (C4m bg s i a rs.length c true) _ _ _ _ _ a1 w1 h1 _ fun a2 w2 h2=>?_)
  refine wp_seq (wp_block (wp_seq (wp_region ?_)))
  rw[G5a]
  have hat2:RecAt w2 a rs.length rs:=hat.later (by obtain ⟨_,_,hf,_⟩:=h2;exact hf.grown) fun k hk=>h2.far hk fun h=>h
  obtain ⟨ad,rfl,_,hc0,hc1⟩:=hat2.lies i hlt
  obtain ⟨ti,hti,hs⟩:=N1z
  refine K0q E5y (by omega) (H2u ..) v22s hti h2 (b:=ad) (len:=rs.length) (cap:=c) (i:=i) (ik:=.i64) (h2.eval (t:=7) rfl) (h2.eval (t:=9) rfl) hlt _ fun a3 h3=>?_
  have ead:∀k,(ad.add (i*ti.size)).add k=ad.add (i*2+k):=by
   intro k
   rw[hs]
   exact adds ad (i*2) k
  refine N0g E5z (by omega) (by rw[List.length_set];exact H2u ..) h3 (b:=ad.add (i*ti.size)) (h3.eval (t:=11) (by rw[List.getElem?_set_self (by rw[H2u];omega)])) (L1m (k:=rs[i].1) (d:=rs[i].2) (by rw[ead];exact hc0) (by rw[ead];exact hc1)) _ fun a4 h4=>?_
  refine D0z (B0b (E:={gam:=[]}) GamOk.nil 4 _) [4096,lN1] _ (G5g bg s i rs[i].1 (some ad) (ad.add (i*ti.size)) rs.length c rs[i].2) (fun _ _ hj=>D0k hj) h4 [] fun a5 w5 h5=>?_
  change Code.wp Tryz.prog (seqR lgB1) _ a5 w5
  have hd:rs.drop i=rs[i] :: rs.drop (i+1):=List.drop_eq_getElem_cons hlt
  have hq:=G5h bg s i rs[i].1 (some ad) rs.length c rs[i].2
  rw[hd]at hQ hR
  cases hbig:decide (wI (s+(rs[i].2.size:Int))>3000) with
  | true =>
   rw[hbig,cond_true]at hq
   refine lg_g hq _ _ _ _ _ a5 w5 h5 _ fun a6 w6 h6=>?_
   exact hR a6 w6 _ _ _ (by unfold M0q;rw[hbig];rfl) h6
  | false =>
   rw[hbig,cond_false]at hq
   refine lg_g hq _ _ _ _ _ a5 w5 h5 _ fun a6 w6 h6=>?_
   simp only[Ex.to,Exit.inBlock]
   have h7:=h6.let_go (lo:=lN1) (W2j ..) (by show 4096≤lN1;decide +kernel) rfl
   have h8:T2y w (lgI bg (some ad) rs.length c (wI (s+(rs[i].2.size:Int))) i []) a6 w6:=h7
   refine lg_g (G5j bg _ i (some ad) rs.length c) _ _ _ _ _ a6 w6 h8 _ fun a7 w7 h9=>?_
   have hw:wI ((i:Int)+1)=((i+1:Nat):Int):=by have :=hat.small;unfold wI;rw[C0k];omega
   rw[hw]at h9
   have hsum:M0q s (rs[i] :: rs.drop (i+1))=M0q (wI (s+(rs[i].2.size:Int))) (rs.drop (i+1)):=by
    show (bif decide (wI (s+(rs[i].2.size:Int))>3000) then false else M0q (wI (s+(rs[i].2.size:Int))) (rs.drop (i+1)))=_
    rw[hbig]
    rfl
   rw[hsum]at hQ hR
   exact ih (i+1) _ a7 w7 (by omega) hQ hR h9
theorem U1d(bg:Int)(a:Option Addr)(c:Nat)(rs:List Rec)(w:World)(hat:RecAt w a rs.length rs) :
  Calls Tryz.prog 14 #[.agg #[.int .i64 bg,.slice a rs.length c]] w fun e w'=>∃v,e=.returned v∧RowKit.Below w.heap.size w w'∧v=.bool (R0p bg rs):=by
 refine U0m (vals:=[.agg #[.int .i64 bg,.slice a rs.length c]]) (args:=[.val (.agg #[.int .i64 bg,.slice a rs.length c])]) B3v G5b A5u (by show 1≤35;omega) w (by simp only[Rels,Rel];exact ⟨_,_,rfl,rfl,rfl⟩) fun act Q hst hQ=>?_
 refine wp_seq (lg_g (G5c bg a rs.length c) _ _ _ _ _ act w hst _ fun a1 w1 h1=>?_)
 refine wp_seq (lg_g (G5d bg a rs.length c) _ _ _ _ _ a1 w1 h1 _ fun a2 w2 h2=>?_)
 refine wp_seq (wp_seq (lg_g (G5e bg a rs.length c) _ _ _ _ _ a2 w2 h2 _ fun a3 w3 h3=>?_))
 refine wp_block (wp_loop_rounds (rs.length+1) (H2v hat rs.length 0 0 a3 w3 (by omega) (fun a4 w4 s' hs h4=>?_) (fun a4 w4 s' i' lo hs h4=>?_) h3))
 ·simp only[Exit.inBlock,if_true]
  rw[List.drop_zero]at hs
  have hq:=G5k bg s' rs.length a rs.length c
  have e:R0p bg rs=(decide ((rs.length:Int)≤30)&&(decide (bg≥0)&&decide (bg≤157766400000))):=by unfold R0p;rw[hs];rfl
  have go:D1q (lgR 3) (lgI bg a rs.length c s' rs.length []) [] [2]=some (.ret,lgV (R0p bg rs) lN1):=by
   rw[hq,e]
   cases decide ((rs.length:Int)≤30)
   ·rfl
   ·cases decide (bg≥0)<;>rfl
  refine lg_g go _ _ _ _ _ a4 w4 h4 _ fun a5 w5 h5=>?_
  exact hQ .ret a5 w5 _ _ _ (.inr rfl) h5 (J3b ..) rfl rfl
 ·rw[List.drop_zero]at hs
  have e:R0p bg rs=false:=by unfold R0p;rw[hs];rfl
  exact hQ .ret a4 w4 _ _ _ (.inr rfl) h4 (J3a ..) rfl (by rw[e])
def P0w(g:StpA→Two Crf ByteArray)(td:ByteArray×Unit→Two Tl Bool)(hd:R0y→Bool)(cr:Crf)(tk:Int):List Rec→Bool
 | []=>true
 | r :: t =>
  bif (g (cr,A0m tk r.1,r.2,())).b.toList==(⟨#[]⟩:ByteArray).toList then bif !crfK (g (cr,A0m tk r.1,r.2,())).a cr then false else P0w g td hd cr (A0m tk r.1) t
  else bif !(td ((g (cr,A0m tk r.1,r.2,())).b,())).b then false else bif !hd (cr,(g (cr,A0m tk r.1,r.2,())).a,(td ((g (cr,A0m tk r.1,r.2,())).b,())).a,r.2,()) then false else P0w g td hd (g (cr,A0m tk r.1,r.2,())).a (A0m tk r.1) t
def N0t(pre:StpA→Bool)(g:StpA→Two Crf ByteArray)(tp:ByteArray×Unit→Bool)(cr:Crf)(tk:Int):List Rec→Prop
 | []=>True
 | r :: t=>pre (cr,A0m tk r.1,r.2,())=true ∧
  (((g (cr,A0m tk r.1,r.2,())).b.toList==(⟨#[]⟩:ByteArray).toList)=true→N0t pre g tp cr (A0m tk r.1) t) ∧
  (((g (cr,A0m tk r.1,r.2,())).b.toList==(⟨#[]⟩:ByteArray).toList)=false→tp ((g (cr,A0m tk r.1,r.2,())).b,())=true∧cr.left.size+r.2.size≤1099511627776∧N0t pre g tp (g (cr,A0m tk r.1,r.2,())).a (A0m tk r.1) t)
theorem G3h(bg:Int)(a:Option Addr)(n c:Nat)(cr:Crf)(tk i:Int)(lo:Nat)(H:Hp):resA Tryz.prog (ecS bg a n c cr tk i lo [] H) Tryz.f15.results.toList=some [.val (.bool false)]:=by kernel_rfl
theorem E2m(bg:Int)(a:Option Addr)(n c:Nat)(cr:Crf)(tk i:Int)(lo:Nat)(x y:AV)(H:Hp):resA Tryz.prog (ecS bg a n c cr tk i lo [(8,x),(9,y)] H) Tryz.f15.results.toList=some [.val (.bool false)]:=by kernel_rfl
abbrev Z1n(w:World)(s:St)(a:Act)(w':World):Prop:=A0j 60 w U1k N0x 4096 (4096+2^200) s a w'
section
variable {pre:StpA→Bool} {g:StpA→Two Crf ByteArray} {tp:ByteArray×Unit→Bool} {td:ByteArray×Unit→Two Tl Bool} {hd:R0y→Bool} (hG:GamOk Tryz.prog (T1k pre g tp td hd))
include hG
theorem ec_g{c:Code}{s s1:St}{e:Ex}{ks ts:List Nat}(h:R0g pre g tp td hd c s ks ts=some (e,s1)):A0b Tryz.prog 60 c s e s1:=A0a (E:={gam:=T1k pre g tp td hd}) hG h
theorem G3g{w:World}{bg tk:Int}{a:Option Addr}{n c i:Nat}{cr:Crf}{r:Rec}{t:List Rec}(hok:N0t pre g tp cr tk (r :: t)){Q:Exit→Act→World→Prop}{act:Act}{w':World}(hst:Z1n w (ecF bg a n c cr tk i r.1 r.2) act w')
  (hN:∀a' w2 cr' e,(e=Ex.normal∨e=.exit 1)→N0t pre g tp cr' (A0m tk r.1) t→P0w g td hd cr tk (r :: t)=P0w g td hd cr' (A0m tk r.1) t→Z1n w (ecS bg a n c cr' (A0m tk r.1) i eN2 [] []) a' w2→Q e.to a' w2)
  (hR:∀a' w2 s',P0w g td hd cr tk (r :: t)=false→Z1n w s' a' w2→resA Tryz.prog s' Tryz.f15.results.toList=some [.val (.bool false)]→Q .ret a' w2) :
  (Code.seq (seqL (ecT 1)) (.seq (seqL (ecT 2)) (.seq (seqL (ecT 3)) (.seq (seqL (ecT 4)) (.seq (seqL (ecT 5)) (ecT 6)))))).wp Tryz.prog Q act w':=by
 obtain ⟨hp,he1,he2⟩:=hok
 refine wp_seq (ec_g hG (Z4y pre g tp td hd bg tk i r.1 a n c cr r.2) _ _ _ _ _ act w' hst _ fun a1 w1 h1=>?_)
 have q7:=Z4z pre g tp td hd bg (A0m tk r.1) i r.1 a n c cr r.2
 rw[hp,cond_true]at q7
 refine wp_seq (ec_g hG q7 _ _ _ _ _ a1 w1 h1 _ fun a2 w2 h2=>?_)
 have hun:P0w g td hd cr tk (r :: t)=bif (g (cr,A0m tk r.1,r.2,())).b.toList==(⟨#[]⟩:ByteArray).toList then bif !crfK (g (cr,A0m tk r.1,r.2,())).a cr then false else P0w g td hd cr (A0m tk r.1) t
  else bif !(td ((g (cr,A0m tk r.1,r.2,())).b,())).b then false else bif !hd (cr,(g (cr,A0m tk r.1,r.2,())).a,(td ((g (cr,A0m tk r.1,r.2,())).b,())).a,r.2,()) then false else P0w g td hd (g (cr,A0m tk r.1,r.2,())).a (A0m tk r.1) t:=rfl
 generalize hy:g (cr,A0m tk r.1,r.2,())=y at *
 obtain ⟨nx,s⟩:=y
 dsimp only at he1 he2 hun h2
 have q8e:=Z3c pre g tp td hd bg (A0m tk r.1) i r.1 a n c cr nx r.2 s
 have q8n:=Z3d pre g tp td hd bg (A0m tk r.1) i r.1 a n c cr nx r.2 s
 have low:4096≤eN2:=by decide +kernel
 cases hs:s.toList==(⟨#[]⟩:ByteArray).toList with
 | true =>
  rw[hs,cond_true]at q8e hun
  cases hk:crfK nx cr with
  | false =>
   rw[hk]at q8e hun
   refine wp_seq (ec_g hG q8e _ _ _ _ _ a2 w2 h2 _ fun a3 w3 h3=>?_)
   exact hR a3 w3 _ (by rw[hun];rfl) h3 (G3h ..)
  | true =>
   rw[hk]at q8e hun
   refine wp_seq (ec_g hG q8e _ _ _ _ _ a2 w2 h2 _ fun a3 w3 h3=>?_)
   have h4:=h3.let_go (lo:=eN2) (X1k ..) low rfl
   exact hN a3 w3 cr (.exit 1) (.inr rfl) (he1 hs) (by rw[hun];rfl) h4
 | false =>
  rw[hs,cond_false]at q8n hun
  obtain ⟨ht,hsm,hok2⟩:=he2 hs
  refine wp_seq (ec_g hG q8n _ _ _ _ _ a2 w2 h2 _ fun a3 w3 h3=>?_)
  have q9:=A5a pre g tp td hd bg (A0m tk r.1) i r.1 a n c cr nx r.2 s
  rw[ht,cond_true]at q9
  refine wp_seq (ec_g hG q9 _ _ _ _ _ a3 w3 h3 _ fun a4 w4 h4=>?_)
  have q10:=Y3x pre g tp td hd bg (A0m tk r.1) i r.1 a n c cr nx (td (s,())).b (td (s,())).a r.2
  cases hb:(td (s,())).b with
  | false =>
   rw[hb]at q10 hun h4
   refine wp_seq (ec_g hG q10 _ _ _ _ _ a4 w4 h4 _ fun a5 w5 h5=>?_)
   exact hR a5 w5 _ (by rw[hun];rfl) h5 (E2m ..)
  | true =>
   rw[hb]at q10 hun h4
   rw[Bool.not_true,cond_false]at q10 hun
   rw[show H3h (cr,nx,(td (s,())).a,r.2,())=true from decide_eq_true hsm,cond_true]at q10
   cases hh:hd (cr,nx,(td (s,())).a,r.2,()) with
   | false =>
    rw[hh]at q10 hun
    refine wp_seq (ec_g hG q10 _ _ _ _ _ a4 w4 h4 _ fun a5 w5 h5=>?_)
    exact hR a5 w5 _ (by rw[hun];rfl) h5 (E2m ..)
   | true =>
    rw[hh]at q10 hun
    refine wp_seq (ec_g hG q10 _ _ _ _ _ a4 w4 h4 _ fun a5 w5 h5=>?_)
    refine ec_g hG (Y3y pre g tp td hd bg (A0m tk r.1) i r.1 a n c cr nx r.2) _ _ _ _ _ a5 w5 h5 _ fun a6 w6 h6=>?_
    have h7:=h6.let_go (lo:=eN2) (X1k ..) low rfl
    exact hN a6 w6 nx .normal (.inl rfl) hok2 (by rw[hun];rfl) h7
theorem E2n{w:World}{bg:Int}{a:Option Addr}{c:Nat}{rs:List Rec}(hat:RecAt w a rs.length rs){Q:Exit→Act→World→Prop} :
  ∀(m i:Nat) (cr:Crf) (tk:Int) (act:Act) (w':World),i+m=rs.length→N0t pre g tp cr tk (rs.drop i)→(∀a' w2 cr' tk',P0w g td hd cr tk (rs.drop i)=true→Z1n w (ecS bg a rs.length c cr' tk' rs.length eN2 [] []) a' w2→Q (.exit 0) a' w2) →
   (∀a' w2 s',P0w g td hd cr tk (rs.drop i)=false→Z1n w s' a' w2→resA Tryz.prog s' Tryz.f15.results.toList=some [.val (.bool false)]→Q .ret a' w2)→Z1n w (ecS bg a rs.length c cr tk i eN2 [] []) act w' →
   Code.rounds Tryz.prog (.seq (seqL ecB) (.seq (seqL (seqR ecB)) (.seq (.block 1 (.seq (.region 5 ecO5 false) (.seq (seqL (ecT 1)) (.seq (seqL (ecT 2)) (.seq (seqL (ecT 3)) (.seq (seqL (ecT 4)) (.seq (seqL (ecT 5)) (ecT 6)))))))) (seqR (seqR (seqR ecB)))))) Q (m+1) act w':=by
 intro m
 induction m with
 | zero =>
  intro i cr tk act w' hi _ hQ _ hst
  have hi':i=rs.length:=by omega
  subst hi'
  rw[rounds_succ]
  refine wp_seq (ec_g hG (Z3b pre g tp td hd bg tk rs.length a rs.length c cr) _ _ _ _ _ act w' hst _ fun a1 w1 h1=>?_)
  rw[decide_eq_false (by omega)]at h1
  refine wp_seq (ec_g hG (Z3e pre g tp td hd bg tk rs.length a rs.length c cr false) _ _ _ _ _ a1 w1 h1 _ fun a2 w2 h2=>?_)
  exact hQ a2 w2 cr tk (by rw[List.drop_of_length_le (Nat.le_refl _)];rfl) h2
 | succ m ih =>
  intro i cr tk act w' hi hok hQ hR hst
  rw[rounds_succ]
  have hlt:i<rs.length:=by omega
  refine wp_seq (ec_g hG (Z3b pre g tp td hd bg tk i a rs.length c cr) _ _ _ _ _ act w' hst _ fun a1 w1 h1=>?_)
  rw[decide_eq_true (by omega)]at h1
  refine wp_seq (ec_g hG (Z3e pre g tp td hd bg tk i a rs.length c cr true) _ _ _ _ _ a1 w1 h1 _ fun a2 w2 h2=>?_)
  refine wp_seq (wp_block (wp_seq (wp_region ?_)))
  rw[Z4p]
  have hat2:RecAt w2 a rs.length rs:=hat.later (by obtain ⟨_,_,hf,_⟩:=h2;exact hf.grown) fun k hk=>h2.far hk fun h=>h
  obtain ⟨ad,rfl,_,hc0,hc1⟩:=hat2.lies i hlt
  obtain ⟨ti,hti,hs⟩:=N1z
  refine K0q Z4m (by omega) (E2k ..) v22s hti h2 (b:=ad) (len:=rs.length) (cap:=c) (i:=i) (ik:=.i64) (h2.eval (t:=16) rfl) (h2.eval (t:=18) rfl) hlt _ fun a3 h3=>?_
  have ead:∀k,(ad.add (i*ti.size)).add k=ad.add (i*2+k):=by
   intro k
   rw[hs]
   exact adds ad (i*2) k
  refine N0g Z4n (by omega) (by rw[List.length_set];exact E2k ..) h3 (b:=ad.add (i*ti.size)) (h3.eval (t:=20) (by rw[List.getElem?_set_self (by rw[E2k];omega)])) (L1m (k:=rs[i].1) (d:=rs[i].2) (by rw[ead];exact hc0) (by rw[ead];exact hc1)) _ fun a4 h4=>?_
  refine D0z (B0b (E:={gam:=T1k pre g tp td hd}) hG 4 _) [4096,eN1,eN2] _ (Z4x pre g tp td hd bg tk i rs[i].1 (some ad) (ad.add (i*ti.size)) rs.length c cr rs[i].2) (fun _ _ hj=>D0k hj) h4 [] fun a5 w5 h5=>?_
  have hdr:rs.drop i=rs[i] :: rs.drop (i+1):=List.drop_eq_getElem_cons hlt
  rw[hdr]at hok hQ hR
  refine G3g hG hok h5 (fun a6 w6 cr' e he hok2 heq h6=>?_) fun a6 w6 s' hf h6 hr=>hR a6 w6 s' hf h6 hr
  rw[heq]at hQ hR
  have hw:IntKind.i64.wrap ((i:Int)+1)=((i+1:Nat):Int):=by have :=hat.small;rw[C0k];omega
  have next:(seqR (seqR (seqR ecB))).wp Tryz.prog (Exit.then (Code.rounds Tryz.prog (.seq (seqL ecB) (.seq (seqL (seqR ecB)) (.seq (.block 1 (.seq (.region 5 ecO5 false) (.seq (seqL (ecT 1)) (.seq (seqL (ecT 2)) (.seq (seqL (ecT 3)) (.seq (seqL (ecT 4)) (.seq (seqL (ecT 5)) (ecT 6)))))))) (seqR (seqR (seqR ecB)))))) Q (m+1)) Q) a6 w6:=by
   refine ec_g hG (Y3z pre g tp td hd bg (A0m tk rs[i].1) i (some ad) rs.length c cr') _ _ _ _ _ a6 w6 h6 _ fun a7 w7 h9=>?_
   rw[hw]at h9
   exact ih (i+1) cr' _ a7 w7 (by omega) hok2 hQ hR h9
  rcases he with rfl | rfl
  ·simp only[Ex.to,Exit.inBlock]
   exact next
  ·simp only[Ex.to,Exit.inBlock,if_true]
   exact next
theorem Z1v(bg:Int)(a:Option Addr)(c:Nat)(rs:List Rec)(w:World)(hat:RecAt w a rs.length rs)(hok:N0t pre g tp crf0 bg rs) :
  Calls Tryz.prog 15 #[.agg #[.int .i64 bg,.slice a rs.length c],.func (.func 40) #[] #[]] w fun e w'=>∃v,e=.returned v∧RowKit.Below w.heap.size w w'∧v=.bool (P0w g td hd crf0 bg rs):=by
 refine U0m (vals:=[.agg #[.int .i64 bg,.slice a rs.length c],.func (.func 40) #[] #[]]) (args:=[.val (.agg #[.int .i64 bg,.slice a rs.length c]),.func 40 [] []]) B3w Z4r A5v (by show 2≤60;omega) w (by simp only[Rels,Rel];exact ⟨_,_,rfl,rfl,_,_,rfl,⟨_,_,rfl,rfl,rfl⟩,rfl⟩) fun act Q hst hQ=>?_
 refine wp_seq (ec_g hG (Z4t pre g tp td hd bg a rs.length c) _ _ _ _ _ act w hst _ fun a1 w1 h1=>?_)
 refine wp_seq (ec_g hG (Z4u pre g tp td hd bg a rs.length c) _ _ _ _ _ a1 w1 h1 _ fun a2 w2 h2=>?_)
 refine wp_seq (ec_g hG (Z4v pre g tp td hd bg a rs.length c) _ _ _ _ _ a2 w2 h2 _ fun a3 w3 h3=>?_)
 refine wp_seq (wp_seq (ec_g hG (Z4w pre g tp td hd bg a rs.length c) _ _ _ _ _ a3 w3 h3 _ fun a4 w4 h4=>?_))
 refine wp_block (wp_loop_rounds (rs.length+1) (E2n hG hat rs.length 0 crf0 bg a4 w4 (by omega) (by rw[List.drop_zero];exact hok) (fun a5 w5 cr' tk' ht h5=>?_) (fun a5 w5 s' hf h5 hr=>?_) h4))
 ·simp only[Exit.inBlock,if_true]
  rw[List.drop_zero]at ht
  refine ec_g hG (Z3a pre g tp td hd bg tk' rs.length a rs.length c cr') _ _ _ _ _ a5 w5 h5 _ fun a6 w6 h6=>?_
  exact hQ .ret a6 w6 _ _ _ (.inr rfl) h6 (Z3g ..) rfl (by rw[ht])
 ·rw[List.drop_zero]at hf
  exact hQ .ret a5 w5 _ _ _ (.inr rfl) h5 hr rfl (by rw[hf])
end
def andV(a b:Int):Int:=IntKind.i64.wrap ((BitVec.ofInt IntKind.i64.bits a &&& BitVec.ofInt IntKind.i64.bits b).toNat:Int)
def H2a(b:Crf):Bool:=bif b.plan.mode==1 then bif decide (andV b.plan.faults 1>0) then true else b.plan.mode==3 else b.plan.mode==3
def C5g(p:R0y):Bool:=bif p.1.plan.mode != 2 then true else bif decide (IntKind.i64.wrap (p.2.1.tk-p.1.tk)≥10) then bif decide (IntKind.i64.wrap (p.2.1.tk-p.1.tk)≤10000) then true else H2a p.2.1 else H2a p.2.1
theorem K1b{c:Crf}{tk:Int}(h:P0g c ST.rt tk=false):A0z tk=true∧(c.on=true→c.tk<tk):=by
 unfold P0g at h
 have hr:ST.rt (tk,())=A0z tk:=rfl
 rw[hr]at h
 cases ht:A0z tk with
 | false=>rw[ht]at h;cases h
 | true =>
  rw[ht,Bool.not_true,cond_false]at h
  refine ⟨rfl,fun hon=>?_⟩
  rw[hon,cond_true]at h
  have :=of_decide_eq_false h
  omega
theorem Z0g(x:CX):((cstT ST x).toList==(⟨#[]⟩:ByteArray).toList)=false:=by
 obtain ⟨l,h⟩:=R1c x
 rw[h,ByteArray.toList_eq,ByteArray.toList_eq,G0b]
 rfl
theorem K0e{hd:R0y→Bool}(hh:∀(c:Crf) (tk:Int) (b:ByteArray),CIn c→P0g c ST.rt tk=false→hd (c,(endX ST tk (cstH ST c tk b)).2.1,H0h (endX ST tk (cstH ST c tk b)),b,())=true) :
  ∀(rs:List Rec) (c:Crf) (tk:Int),CIn c→c.left.size+(rs.map fun r=>r.2.size).sum≤1099511627776→N0t B0y D0d N0p c tk rs∧P0w D0d M1b hd c tk rs=true
 | [],_,_,_,_=>⟨trivial,rfl⟩
 | r :: t,c,tk,hc,hs=>by
  simp only[List.map_cons,List.sum_cons]at hs
  cases hl:P0g c ST.rt (A0m tk r.1) with
  | true =>
   have e:D0d (c,A0m tk r.1,r.2,())=⟨c,⟨#[]⟩⟩:=by unfold D0d X0q;dsimp only;rw[hl];rfl
   have hp:B0y (c,A0m tk r.1,r.2,())=true:=by unfold B0y J0z;dsimp only;rw[hl];rfl
   obtain ⟨i1,i2⟩:=K0e hh t c (A0m tk r.1) hc (by omega)
   have em:((⟨#[]⟩:ByteArray).toList==(⟨#[]⟩:ByteArray).toList)=true:=by simp
   constructor
   ·unfold N0t
    rw[e]
    exact ⟨hp,fun _=>i1,fun h=>(by rw[em]at h;cases h)⟩
   ·unfold P0w
    rw[e]
    dsimp only
    rw[em,Z0t,cond_true]
    exact i2
  | false =>
   obtain ⟨ht,hon⟩:=K1b hl
   generalize hk:A0m tk r.1=k at *
   have hx:XIn k (gapV c k) (gapV c k==0) c.plan.mode (c.left.size+r.2.size) (cstH ST c k r.2):=(hc.start k (by omega)).heard r.2 (Nat.le_refl _)
   have hi:=X1m hx ht
   have hleft:=Z0c hx
   have htk:(endX ST k (cstH ST c k r.2)).1.tk=k:=L1w hx k
   obtain ⟨b1,b2⟩:=D1c (x:=endX ST k (cstH ST c k r.2)) hi (by rw[htk];exact ht)
   have e:D0d (c,k,r.2,())=⟨(endX ST k (cstH ST c k r.2)).2.1,cstT ST (endX ST k (cstH ST c k r.2))⟩:=by unfold D0d X0q;dsimp only;rw[hl];rfl
   have hp:B0y (c,k,r.2,())=true:=by
    unfold B0y J0z
    dsimp only
    rw[hl,cond_false]
    have h1:ST.hp (stp1 c k,c,rds0) (r.2,())=true:=decide_eq_true (by show c.left.size+r.2.size≤_;omega)
    rw[h1,hx.driftOk]
    rfl
   have hne:=Z0g (endX ST k (cstH ST c k r.2))
   obtain ⟨i1,i2⟩:=K0e hh t (endX ST k (cstH ST c k r.2)).2.1 k hi (by omega)
   constructor
   ·unfold N0t
    rw[hk,e]
    exact ⟨hp,fun h=>(by rw[hne]at h;cases h),fun _=>⟨b1,by omega,i1⟩⟩
   ·unfold P0w
    rw[hk,e]
    dsimp only
    rw[hne,cond_false,b2]
    dsimp only
    rw[hh c k r.2 hc hl]
    exact i2
structure V0z where
 aw:Bool
 pre:StpA→Bool
 g:StpA→Two Crf ByteArray
 sz:ByteArray×Unit→Bool
 op:ByteArray×Unit→Two Fr Bool
 rp:Fr×Unit→Bool
 rd:Fr×Unit→Two Tl Bool
 hl:Crf×Unit→Bool
def P0z(F:V0z):Gam:=[(23,S0 fun (_:Unit)=>F.aw),(25,S0w F.pre F.g),(28,S0 fun (p:Int×Int×Unit)=>A0m p.1 p.2.1),(29,S0w F.sz F.op),(30,S0c F.rp F.rd),(31,S0 F.hl)]
section
variable (F:V0z) (bg tk i k:Int) (a:Option Addr) (ad:Addr) (n c:Nat) (cr nx:Crf) (t o y:Bool) (tl:Tl) (d s:ByteArray) (f:Fr)
end
def N1w(F:V0z)(cr:Crf)(tk:Int)(o:Bool)(r:Two Tl Bool):Bool:=o&&(r.b&&(r.a.mode==cr.plan.mode&&(r.a.tk==tk&&(r.a.rej==cr.rej&&(r.a.faults==cr.plan.faults&&F.hl (cr,()))))))
def HoOk(F:V0z)(cr:Crf)(tk:Int):List Rec→Prop
 | []=>True
 | r :: t=>F.pre (cr,A0m tk r.1,r.2,())=true ∧
  (((F.g (cr,A0m tk r.1,r.2,())).b.toList==(⟨#[]⟩:ByteArray).toList)=true→crfK (F.g (cr,A0m tk r.1,r.2,())).a cr=true∧HoOk F cr (A0m tk r.1) t) ∧
  (((F.g (cr,A0m tk r.1,r.2,())).b.toList==(⟨#[]⟩:ByteArray).toList)=false→F.sz ((F.g (cr,A0m tk r.1,r.2,())).b,())=true∧F.rp ((F.op ((F.g (cr,A0m tk r.1,r.2,())).b,())).a,())=true ∧
   N1w F (F.g (cr,A0m tk r.1,r.2,())).a (A0m tk r.1) (F.op ((F.g (cr,A0m tk r.1,r.2,())).b,())).b (F.rd ((F.op ((F.g (cr,A0m tk r.1,r.2,())).b,())).a,()))=true∧HoOk F (F.g (cr,A0m tk r.1,r.2,())).a (A0m tk r.1) t)
section
variable {F:V0z} (hG:GamOk Tryz.prog (P0z F))
include hG
end
structure Z0m(J:CX→Prop):Prop where
 rej:∀{x:CX},J x→J (rejX x)
 left:∀{x:CX} (l:ByteArray),J x→J (x.1,{x.2.1 with left:=l},x.2.2)
 ack:∀{x:CX} (o:Two Odr Int),J x→J (ackX x o)
 say:∀{x:CX} (n:Int),n=1∨n=2→J x→J (sayX x n)
 orb:∀{x:CX} (o:Orb),J x→J (orbX x o)
 clr:∀{x:CX},J x→J (clrX x)
 put:∀{x:CX} (r:Rds),J x→J (x.1,x.2.1,r)
 drift:∀{x:CX} (d:Dr),J x→J (x.1,{x.2.1 with drift:=d},x.2.2)
section
variable {J:CX→Prop}
theorem M0p{c:Bool}{y z:CX}(hy:c=true→J y)(hz:c=false→J z):J (bif c then y else z):=by
 cases c
 ·exact hz rfl
 ·exact hy rfl
theorem Z0m.order(A:Z0m J){x:CX}(h:J x)(f:Fr×Unit):J (V0g x f):=by
 have ha:=A.ack (ordV f) h
 unfold V0g Q1c
 exact M0p (fun _=>A.rej ha) fun _=>M0p (fun h1=>A.say _ (.inl (by simpa using h1)) ha) fun _=>M0p (fun h1=>A.say _ (.inr (by simpa using h1)) ha) fun _=>M0p (fun _=>A.orb _ ha) fun _=>M0p (fun _=>A.clr ha) fun _=>ha
theorem Z0m.hear(A:Z0m J){x:CX}(h:J x)(f:Fr):J (N0d HR x f):=by
 have sens:∀p:CX,J p→J (X0p HR x f p):=fun p hp=>by
  unfold X0p
  exact M0p (fun _=>M0p (fun _=>hp) fun _=>A.rej h) fun _=>A.rej h
 unfold N0d
 exact M0p (fun _=>sens _ (A.put _ h)) fun _=>M0p (fun _=>sens _ (A.put _ h)) fun _=>M0p (fun _=>sens _ (A.put _ h)) fun _=>M0p (fun _=>A.order h _) fun _=>A.rej h
theorem Z0m.hears(A:Z0m J):∀(fs:List Fr) {x:CX},J x→J (fs.foldl (N0d HR) x)
 | [],_,h=>h
 | f :: fs,_,h=>A.hears fs (A.hear h f)
theorem Z0m.heard(A:Z0m J){x:CX}(h:J x)(b:ByteArray):J (W0v HR x (b,())):=by
 unfold W0v A2g
 refine A.hears _ ?_
 unfold H0z
 exact M0p (fun _=>A.rej (A.left _ h)) fun _=>A.left _ h
theorem Z0m.drifted(A:Z0m J){x:CX}(h:J x):J (cstD ST x):=by
 unfold cstD
 exact M0p (fun _=>A.drift _ h) fun _=>h
end
theorem B1b(a b c:Int):neg3 a b c=neg3 b a c:=by
 unfold neg3
 rw[Bool.xor_comm (decide (a<0))]
theorem T0j(f:Bool)(a b c:Int):H0b f a b c=H0b f b a c:=by
 unfold H0b
 rw[B1b a b c,Int.mul_comm (iabs a)]
theorem B1e(a b:Int):C0r [a,b]=C0r [b,a]:=by
 unfold C0r C0r C0r
 rw[Bool.and_true,Bool.and_true,Bool.and_comm]
theorem P0y(f:Bool)(a b:Int):fmul f a b=fmul f b a:=by
 unfold fmul
 rw[B1e,T0j]
theorem V0h(u v:Nat→Int):∀(n k:Nat) (s:Int×Bool),pmN opsF u v k n s=pmN opsF v u k n s
 | 0,_,_=>rfl
 | n+1,k,s=>by
  show pmN opsF u v (k+1) n (fadd (fmul s.2 (u k) (v k)).2 s.1 (fmul s.2 (u k) (v k)).1)=pmN opsF v u (k+1) n (fadd (fmul s.2 (v k) (u k)).2 s.1 (fmul s.2 (v k) (u k)).1)
  rw[P0y s.2 (u k),V0h u v n]
theorem M3b:opsF.mul=fmul:=rfl
theorem M3a:opsF.add=fadd:=rfl
theorem Y1j:opsF.part=G0m:=rfl
theorem B1w(b:Bool)(u v:Nat→Int):pmO opsF b u v=G0m (pmN opsF u v 1 12 (fadd (fmul b (u 0) (v 0)).2 (fmul b (u 0) (v 0)).1 (fmul b (u 0) (v 0)).1)).2 (pmN opsF u v 1 12 (fadd (fmul b (u 0) (v 0)).2 (fmul b (u 0) (v 0)).1 (fmul b (u 0) (v 0)).1)).1 1 14:=by
 unfold pmO
 dsimp only
 rw[Y1j,M3b,M3a]
theorem K1z(b:Bool)(u v:Nat→Int):pmO opsF b u v=pmO opsF b v u:=by
 rw[B1w,B1w,P0y b (u 0),V0h u v]
theorem V1k(u v:Nat→Int):(pmO opsF true u v).2=true:=by
 rw[B1w,X1r,X1n]
 have h:=V1j u v 12 1 0
 generalize pmN opsF u v 1 12 (0,true)=q at h ⊢
 obtain ⟨s,f⟩:=q
 have h:f=true:=h
 subst h
 rw[U0t]
theorem Q0g(x y:Mx)(i:Nat):∀(n j:Nat) (z:Mx×Bool),(A0k (G0x opsF x y i) j n z).2=false→z.2=false∧∀a b,(A0k (G0x opsF x y i) j n z).1 a b=if a=i∧j≤b∧b<j+n then (pmO opsF false (fun k=>x k i) (fun k=>y k b)).1 else z.1 a b
 | 0,j,z,h=>⟨h,fun a b=>by rw[if_neg (by omega)];rfl⟩
 | n+1,j,z,h=>by
  have hs:A0k (G0x opsF x y i) j (n+1) z=A0k (G0x opsF x y i) (j+1) n (G0x opsF x y i j z):=rfl
  rw[hs]at h ⊢
  obtain ⟨h1,h2⟩:=Q0g x y i n (j+1) _ h
  have h3:(pmO opsF z.2 (fun k=>x k i) (fun k=>y k j)).2=false:=h1
  have hz:z.2=false:=by
   cases hz:z.2 with
   | false=>rfl
   | true=>rw[hz,V1k]at h3;cases h3
  refine ⟨hz,fun a b=>?_⟩
  rw[h2 a b]
  by_cases hb:a=i∧j+1≤b∧b<j+1+n
  ·rw[if_pos hb,if_pos (by omega)]
  ·rw[if_neg hb]
   have e:(G0x opsF x y i j z).1 a b=bif Nat.beq a i&&Nat.beq b j then (pmO opsF z.2 (fun k=>x k i) (fun k=>y k j)).1 else z.1 a b:=rfl
   rw[e]
   by_cases hab:a=i∧b=j
   ·obtain ⟨rfl,rfl⟩:=hab
    rw[if_pos (by omega),hz]
    simp
   ·rw[if_neg (by omega)]
    have:(Nat.beq a i&&Nat.beq b j)=false:=by
     cases hc:(Nat.beq a i&&Nat.beq b j) with
     | false=>rfl
     | true =>
      rw[Bool.and_eq_true]at hc
      exact absurd ⟨Nat.eq_of_beq_eq_true hc.1,Nat.eq_of_beq_eq_true hc.2⟩ hab
    rw[this]
    rfl
theorem H0w(x y:Mx):∀(n i:Nat) (z:Mx×Bool),(A0k (D0r opsF x y) i n z).2=false→z.2=false∧∀a b,b<6→(A0k (D0r opsF x y) i n z).1 a b=if i≤a∧a<i+n then (pmO opsF false (fun k=>x k a) (fun k=>y k b)).1 else z.1 a b
 | 0,i,z,h=>⟨h,fun a b _=>by rw[if_neg (by omega)];rfl⟩
 | n+1,i,z,h=>by
  have hs:A0k (D0r opsF x y) i (n+1) z=A0k (D0r opsF x y) (i+1) n (D0r opsF x y i z):=rfl
  rw[hs]at h ⊢
  obtain ⟨h1,h2⟩:=H0w x y n (i+1) _ h
  obtain ⟨h3,h4⟩:=Q0g x y i 6 0 z h1
  refine ⟨h3,fun a b hb=>?_⟩
  rw[h2 a b hb]
  by_cases ha:i+1≤a∧a<i+1+n
  ·rw[if_pos ha,if_pos (by omega)]
  ·rw[if_neg ha]
   have h5:=h4 a b
   have e:(D0r opsF x y i z).1 a b=(A0k (G0x opsF x y i) 0 6 z).1 a b:=rfl
   rw[e,h5]
   by_cases hai:a=i
   ·subst hai
    rw[if_pos (by omega),if_pos (by omega)]
   ·rw[if_neg (by omega),if_neg (by omega)]
def SymX(m:Mx):Prop:=∀i j,i<6→j<6→m i j=m j i
theorem H1v(L:Mx){i j:Nat}(hi:i<6)(hj:j<6):(M6.of L).at i j=L i j:=by
 match i,j,hi,hj with
 | 0,0,_,_ | 0,1,_,_ | 0,2,_,_ | 0,3,_,_ | 0,4,_,_ | 0,5,_,_=>rfl
 | 1,0,_,_ | 1,1,_,_ | 1,2,_,_ | 1,3,_,_ | 1,4,_,_ | 1,5,_,_=>rfl
 | 2,0,_,_ | 2,1,_,_ | 2,2,_,_ | 2,3,_,_ | 2,4,_,_ | 2,5,_,_=>rfl
 | 3,0,_,_ | 3,1,_,_ | 3,2,_,_ | 3,3,_,_ | 3,4,_,_ | 3,5,_,_=>rfl
 | 4,0,_,_ | 4,1,_,_ | 4,2,_,_ | 4,3,_,_ | 4,4,_,_ | 4,5,_,_=>rfl
 | 5,0,_,_ | 5,1,_,_ | 5,2,_,_ | 5,3,_,_ | 5,4,_,_ | 5,5,_,_=>rfl
theorem V0j(o:Ops)(b:Bool)(x y:X13):T0w o b x y=(M6.of (A0k (D0r o x.at y.at) 0 6 (mx0,b)).1,(A0k (D0r o x.at y.at) 0 6 (mx0,b)).2):=rfl
theorem Q1h{b:Bool}{x:X13}(h:(T0w opsF b x x).2=false):b=false∧SymX (T0w opsF b x x).1.at:=by
 rw[V0j]at h ⊢
 dsimp only at h
 obtain ⟨h1,h2⟩:=H0w x.at x.at 6 0 (mx0,b) h
 refine ⟨h1,fun i j hi hj=>?_⟩
 dsimp only
 rw[H1v _ hi hj,H1v _ hj hi,h2 i j hj,h2 j i hi,if_pos (by omega),if_pos (by omega),K1z]
theorem Y1n(b:Bool)(m:M6)(p q:Int):(X0b opsF b m p q).2=false→SymX m.at→SymX (X0b opsF b m p q).1.at:=by
 intro _ h i j hi hj
 have key:∀a c,a<6→c<6→a≠c→(X0b opsF b m p q).1.at a c=m.at a c:=by
  intro a c ha hc hac
  refine (H1v _ ha hc).trans ?_
  unfold B2b
  dsimp only[setM]
  match a,c,ha,hc,hac with
  | 0,0,_,_,h | 1,1,_,_,h | 2,2,_,_,h | 3,3,_,_,h | 4,4,_,_,h | 5,5,_,_,h=>exact absurd rfl h
  | 0,1,_,_,_ | 0,2,_,_,_ | 0,3,_,_,_ | 0,4,_,_,_ | 0,5,_,_,_=>rfl
  | 1,0,_,_,_ | 1,2,_,_,_ | 1,3,_,_,_ | 1,4,_,_,_ | 1,5,_,_,_=>rfl
  | 2,0,_,_,_ | 2,1,_,_,_ | 2,3,_,_,_ | 2,4,_,_,_ | 2,5,_,_,_=>rfl
  | 3,0,_,_,_ | 3,1,_,_,_ | 3,2,_,_,_ | 3,4,_,_,_ | 3,5,_,_,_=>rfl
  | 4,0,_,_,_ | 4,1,_,_,_ | 4,2,_,_,_ | 4,3,_,_,_ | 4,5,_,_,_=>rfl
  | 5,0,_,_,_ | 5,1,_,_,_ | 5,2,_,_,_ | 5,3,_,_,_ | 5,4,_,_,_=>rfl
 by_cases e:i=j
 ·rw[e]
 ·rw[key i j hi hj e,key j i hj hi (fun h=>e h.symm)]
  exact h i j hi hj
theorem R2e{b:Bool}{q:V4}{bias:V3}{y:R6}{p:M6}(h:(stF b (q,bias,y,p,())).2=false):b=false∧(stF b (q,bias,y,p,())).1.b=true∧(stF b (q,bias,y,p,())).1.a.p=p∧QU (stF b (q,bias,y,p,())).1.a.q:=by
 unfold stF L1q T0y at h ⊢
 dsimp only at h ⊢
 rcases ht:tuF b ((D0m y).a,q,()) with ⟨t,f1⟩
 rw[ht]at h
 dsimp only at h ⊢
 rcases hu:E0p opsF f1 (t,()) with ⟨u,f2⟩
 rw[hu]at h
 dsimp only at h ⊢
 rcases hc:vop fadd f2 (bias,(D0m y).b,()) with ⟨c,f3⟩
 rw[hc]at h
 have h:f3=false:=h
 subst h
 have h2:f2=false:=by
  cases f2 with
  | false=>rfl
  | true=>have :=V3y (bias,(D0m y).b,());rw[hc]at this;cases this
 subst h2
 have h1:f1=false:=by
  cases f1 with
  | false=>rfl
  | true=>have :=B3k (t,());rw[hu]at this;cases this
 subst h1
 have h0:b=false:=by
  cases b with
  | false=>rfl
  | true=>have :=D2r ((D0m y).a,q,());rw[ht]at this;cases this
 exact ⟨h0,rfl,rfl,L1b hu⟩
theorem P4n{b:Bool}{a:V4×V3×R6×M6×Unit}(h:(stF b a).2=true):(stF b a).1=⟨Gs.zero,false⟩:=by
 unfold stF L1q at h ⊢
 dsimp only at h ⊢
 rw[h]
 rfl
def mvT(F:FOps)(g:Gs)(ms:Int)(mid:V4)(y:Mx×Bool):Gs×Bool :=
 let c:=F.cen y.2 (N0r y.1)
 let p:=F.pro c.2 c.1.x c.1.x
 let n:=mv3 F ms p.1 p.2
 let s:=F.st n.2 (mid,g.bias,c.1.m,n.1,())
 (s.1.a,s.2)
theorem D4r(F:FOps)(b:Bool)(g:Gs)(rate:V3)(ms:Int):∃mid y,W0z F b (g,rate,ms,())=mvT F g ms mid y:=⟨_,_,rfl⟩
theorem FPo:FP.o=opsF:=by simp only[FP]
theorem V4h:FP.pro=T0w opsF:=by simp only[FP]
theorem V4g:FP.ont=X0b opsF:=by simp only[FP]
theorem FPst:FP.st=stF:=by simp only[FP]
theorem B1n(m:M6)(p q:Int):(X0b opsF true m p q).2=true:=rfl
theorem W2y{ms:Int}{p:M6}{b:Bool}(h:(mv3 FP ms p b).2=false):b=false∧(SymX p.at→SymX (mv3 FP ms p b).1.at):=by
 unfold mv3 at h ⊢
 dsimp only at h ⊢
 rw[FPo,V4g,Y1j]at h ⊢
 cases b with
 | true =>
  rw[U0t]at h
  dsimp only at h
  rw[U0t]at h
  dsimp only at h
  rw[B1n]at h
  cases h
 | false=>exact ⟨rfl,fun hs=>Y1n _ _ _ _ h hs⟩
theorem A2u{F:FOps}(hst:F.st=stF)(hpro:F.pro=T0w opsF)(hm:∀{ms:Int} {p:M6} {b:Bool},(mv3 F ms p b).2=false→b=false∧(SymX p.at→SymX (mv3 F ms p b).1.at)){b:Bool}{g:Gs}{rate:V3}{ms:Int}(h:(W0z F b (g,rate,ms,())).2=false) :
  QU (W0z F b (g,rate,ms,())).1.q∧SymX (W0z F b (g,rate,ms,())).1.p.at:=by
 obtain ⟨mid,y,e⟩:=D4r F b g rate ms
 rw[e]at h ⊢
 unfold mvT at h ⊢
 dsimp only at h ⊢
 rw[hst,hpro]at h ⊢
 generalize F.cen y.2 (N0r y.1)=c at h ⊢
 obtain ⟨h1,_,h3,h4⟩:=R2e h
 obtain ⟨h5,h6⟩:=hm h1
 rw[h3]
 exact ⟨h4,h6 (Q1h h5).2⟩
theorem P1k{b:Bool}{g:Gs}{rate:V3}{ms:Int}(h:(W0z FP b (g,rate,ms,())).2=false):QU (W0z FP b (g,rate,ms,())).1.q∧SymX (W0z FP b (g,rate,ms,())).1.p.at:=A2u FPst V4h W2y h
theorem E2v(b:Bool)(x y:Int):fadd b x y=fadd b y x:=by
 unfold fadd
 rw[Int.add_comm x y]
 cases num x<;>cases num y<;>rfl
def hv(T:Mx)(i j:Nat)(b:Bool):Int×Bool:=G0m (fadd b (T i j) (T j i)).2 (fadd b (T i j) (T j i)).1 1 2
theorem H3v(T:Mx)(i j:Nat)(b:Bool):hv T i j b=hv T j i b:=by
 unfold hv
 rw[E2v]
theorem C4b(T:Mx)(i j:Nat):(hv T i j true).2=true:=rfl
theorem W2q(T:Mx)(i j n:Nat)(z:Mx×Bool):meH opsF T i j (n+1) z=meH opsF T i (j+1) n (setM z.1 i j (hv T i j z.2).1,(hv T i j z.2).2):=rfl
theorem E1w(T:Mx)(i:Nat):∀(n j:Nat) (z:Mx×Bool),(meH opsF T i j n z).2=false→z.2=false∧∀a b,(meH opsF T i j n z).1 a b=if a=i∧j≤b∧b<j+n then (hv T i b false).1 else z.1 a b
 | 0,j,z,h=>⟨h,fun a b=>by rw[if_neg (by omega)];rfl⟩
 | n+1,j,z,h=>by
  rw[W2q]at h ⊢
  obtain ⟨h1,h2⟩:=E1w T i n (j+1) _ h
  have hz:z.2=false:=by
   cases hz:z.2 with
   | false=>rfl
   | true=>rw[hz]at h1;have h1:(hv T i j true).2=false:=h1;rw[C4b]at h1;cases h1
  refine ⟨hz,fun a b=>?_⟩
  rw[h2 a b]
  by_cases hb:a=i∧j+1≤b∧b<j+1+n
  ·rw[if_pos hb,if_pos (by omega)]
  ·rw[if_neg hb]
   unfold setM
   by_cases hab:a=i∧b=j
   ·obtain ⟨rfl,rfl⟩:=hab
    rw[if_pos (by omega),hz]
    simp
   ·rw[if_neg (by omega)]
    have:(Nat.beq a i&&Nat.beq b j)=false:=by
     cases hc:(Nat.beq a i&&Nat.beq b j) with
     | false=>rfl
     | true =>
      rw[Bool.and_eq_true]at hc
      exact absurd ⟨Nat.eq_of_beq_eq_true hc.1,Nat.eq_of_beq_eq_true hc.2⟩ hab
    dsimp only
    rw[this]
    rfl
theorem GPo:GP.o=opsF:=by simp only[GP]
theorem GPst:GP.st=stF:=by simp only[GP]
theorem GPap:GP.ap=U0z opsF:=by simp only[GP]
theorem Y0g(T:Mx):∀(n i:Nat) (z:Mx×Bool),(A0k (meFH GP T) i n z).2=false→z.2=false∧∀a b,b<6→(A0k (meFH GP T) i n z).1 a b=if i≤a∧a<i+n then (hv T a b false).1 else z.1 a b
 | 0,i,z,h=>⟨h,fun a b _=>by rw[if_neg (by omega)];rfl⟩
 | n+1,i,z,h=>by
  have hs:A0k (meFH GP T) i (n+1) z=A0k (meFH GP T) (i+1) n (meFH GP T i z):=rfl
  have hm:meFH GP T i z=meH opsF T i 0 6 z:=by unfold meFH;rw[GPo]
  rw[hs,hm]at h ⊢
  obtain ⟨h1,h2⟩:=Y0g T n (i+1) _ h
  obtain ⟨h3,h4⟩:=E1w T i 6 0 z h1
  refine ⟨h3,fun a b hb=>?_⟩
  rw[h2 a b hb]
  by_cases ha:i+1≤a∧a<i+1+n
  ·rw[if_pos ha,if_pos (by omega)]
  ·rw[if_neg ha,h4 a b]
   by_cases hai:a=i
   ·subst hai
    rw[if_pos (by omega),if_pos (by omega)]
   ·rw[if_neg (by omega),if_neg (by omega)]
theorem A2e{T:Mx}{b:Bool}(h:(A0k (meFH GP T) 0 6 (mx0,b)).2=false):SymX (M6.of (A0k (meFH GP T) 0 6 (mx0,b)).1).at:=by
 obtain ⟨_,h2⟩:=Y0g T 6 0 (mx0,b) h
 intro i j hi hj
 rw[H1v _ hi hj,H1v _ hj hi,h2 i j hj,h2 j i hi,if_pos (by omega),if_pos (by omega),H3v]
theorem V3r:Bad (U0z opsF):=fun a=>by
 show (byN R6.zero a.2.2.1 true _).2=true
 unfold byN
 cases okN a.2.2.1<;>rfl
theorem V2e{g:Gs}{c:M6}{y:R6}{l:M6}{chi:Int}:((G0w GP g c y l chi).2=true∧(G0w GP g c y l chi).1=GCB.zero) ∨
  ((G0w GP g c y l chi).2=false∧(G0w GP g c y l chi).1.ok=true∧QU (G0w GP g c y l chi).1.g.q∧SymX (G0w GP g c y l chi).1.g.p.at∧(G0w GP g c y l chi).1.chi=chi):=by
 unfold G0w meZ
 dsimp only
 rw[GPst,GPap]
 generalize A0k (meFF GP l c) 0 6 (mx0,false)=k
 generalize A0k (meFG GP g.p.at k.1 c.at) 0 6 (mx0,k.2)=T
 rcases hp:A0k (meFH GP T.1) 0 6 (mx0,T.2) with ⟨P,f⟩
 dsimp only
 rcases ha:U0z opsF f (M6.of k.1,y,6,()) with ⟨a,f2⟩
 dsimp only
 cases hs:(stF f2 (g.q,g.bias,a,M6.of P,())).2 with
 | true =>
  refine .inl ⟨rfl,?_⟩
  rw[P4n hs]
  rfl
 | false =>
  obtain ⟨h1,h2,h3,h4⟩:=R2e hs
  subst h1
  have hf:f=false:=by
   cases f with
   | false=>rfl
   | true=>have :=V3r (M6.of k.1,y,6,());rw[ha]at this;cases this
  subst hf
  refine .inr ⟨rfl,h2,h4,?_,?_⟩
  ·rw[h3]
   have :=A2e (T:=T.1) (b:=T.2) (by rw[hp])
   rw[hp]at this
   exact this
  ·rw[h2]
   rfl
theorem W2w(F:GOps)(b:Bool)(g:Gs)(sky body:P2):∃c y l e,K0r F b (g,sky,body,())=T0m F g c y l e:=⟨_,_,_,_,rfl⟩
theorem P1e(b:Bool)(g:Gs)(sky body:P2):((K0r GP b (g,sky,body,())).2=true∧(K0r GP b (g,sky,body,())).1=GCB.zero) ∨
  ((K0r GP b (g,sky,body,())).2=false∧(K0r GP b (g,sky,body,())).1.ok=false∧(K0r GP b (g,sky,body,())).1.g=g∧(K0r GP b (g,sky,body,())).1.chi>32985348833280) ∨
  ((K0r GP b (g,sky,body,())).2=false∧(K0r GP b (g,sky,body,())).1.ok=true∧QU (K0r GP b (g,sky,body,())).1.g.q∧SymX (K0r GP b (g,sky,body,())).1.g.p.at∧(K0r GP b (g,sky,body,())).1.chi≤32985348833280):=by
 obtain ⟨c,y,l,e,he⟩:=W2w GP b g sky body
 rw[he]
 unfold T0m
 cases e.2 with
 | true=>exact .inl ⟨rfl,rfl⟩
 | false =>
  by_cases hc:e.1>32985348833280
  ·rw[decide_eq_true hc]
   exact .inr (.inl ⟨rfl,rfl,rfl,hc⟩)
  ·rw[decide_eq_false hc]
   rcases V2e (g:=g) (c:=c) (y:=y) (l:=l) (chi:=e.1) with ⟨h1,h2⟩ | ⟨h1,h2,h3,h4,h5⟩
   ·exact .inl ⟨h1,h2⟩
   ·refine .inr (.inr ⟨h1,h2,h3,h4,?_⟩)
    show (G0w GP g c y l e.1).1.chi≤_
    rw[h5]
    omega
theorem X0k{b:Bool}{q:V4}(h:(E0p opsF b (q,())).2=false):QU (E0p opsF b (q,())).1:=by
 cases b with
 | false=>exact L1b (Prod.ext rfl h)
 | true =>
  have e:(E0p opsF true (q,())).2=true:=by
   unfold E0p
   have hl:(qlen opsF true q).2=true:=rfl
   dsimp only
   rw[hl]
   cases decide ((qlen opsF true q).1<549755813888)<;>rfl
  rw[e]at h
  cases h
theorem T1u{b:Bool}{m:M9}(h:(H0t opsF (E0p opsF) b (m,())).2=false):QU (H0t opsF (E0p opsF) b (m,())).1:=by
 have key:∀(c:Bool) (x y:V4×Bool),(x.2=false→QU x.1)→(y.2=false→QU y.1)→((bif c then x else y).2=false→QU (bif c then x else y).1):=by
  intro c x y hx hy
  cases c
  ·exact hy
  ·exact hx
 revert h
 unfold H0t
 dsimp only
 cases fmF opsF m b with
 | true=>intro h;cases h
 | false =>
  rw[cond_false]
  unfold N1k
  have u:∀(f:Bool) (q:V4),(E0p opsF f (q,())).2=false→QU (E0p opsF f (q,())).1:=fun f q h=>X0k h
  exact key _ _ _ (key _ _ _ (key _ _ _ (u _ _) (u _ _)) (key _ _ _ (u _ _) (u _ _))) (key _ _ _ (key _ _ _ (u _ _) (u _ _)) (key _ _ _ (u _ _) (u _ _)))
structure GsIn(g:Gs):Prop where
 q:QU g.q
 s:g.p.a.a+g.p.b.b+g.p.c.c≤274877906944
 n1:num (g.p.a.a+g.p.b.b)=true
 n2:num (g.p.a.a+g.p.b.b+g.p.c.c)=true
theorem P0x{b:Bool}{x y:Int}(h:(fadd b x y).2=false):b=false:=by
 cases b with
 | false=>rfl
 | true=>cases h
theorem C1u{b:Bool}{g:Gs}(h:(C0y b (g,())).2=false)(hs:¬ (C0y b (g,())).1>274877906944):b=false∧g.p.a.a+g.p.b.b+g.p.c.c≤274877906944∧num (g.p.a.a+g.p.b.b)=true∧num (g.p.a.a+g.p.b.b+g.p.c.c)=true:=by
 have e:C0y b (g,())=fadd (fadd b g.p.a.a g.p.b.b).2 (fadd b g.p.a.a g.p.b.b).1 g.p.c.c:=rfl
 rw[e]at h hs
 have h1:=P0x h
 have h2:=P0x h1
 subst h2
 obtain ⟨v1,_,_,n1⟩:=J1k (Prod.ext rfl h1:fadd false g.p.a.a g.p.b.b=((fadd false g.p.a.a g.p.b.b).1,false))
 rw[h1]at h hs
 obtain ⟨v2,_,_,n2⟩:=J1k (Prod.ext rfl h:fadd false (fadd false g.p.a.a g.p.b.b).1 g.p.c.c=((fadd false (fadd false g.p.a.a g.p.b.b).1 g.p.c.c).1,false))
 rw[v2,v1]at hs n2
 rw[v1]at n1
 exact ⟨rfl,by omega,n1,n2⟩
theorem V1p{b:Bool}{x y:X13}(h:(T0w opsF b x y).2=false):b=false:=by
 rw[V0j]at h
 have h2:(A0k (D0r opsF x.at y.at) 0 6 (mx0,b)).2=false:=by simpa only using h
 exact (H0w x.at y.at 6 0 (mx0,b) h2).1
theorem B1a{F:GOps}(hA:∀z,(A0k (meFA F) 0 2 (z,true)).2=true)(hx:∀a,(F.pt true a).2=true)(hB:∀q sky r,(meB F q sky r true).2=true)(hcen:∀x,(F.cen true x).2=true)(hpro:∀b x y,(F.pro b x y).2=false→b=false)
  (hont:∀m p q,(F.ont true m p q).2=true) (hD:∀m y,(A0k (meFD F m) 0 6 (y,true)).2=true) (hrt:∀a,(F.rt true a).2=true) (hso:∀a,(F.so true a).2=true) (hE:∀y u,(A0k (meFE F y u) 0 6 (0,true)).2=true) (a:Gs×P2×P2×Unit):(K0r F true a).2=true:=by
 have pro:∀(b:Bool) (x y:X13),b=true→(F.pro b x y).2=true:=by
  intro b x y hb
  cases h:(F.pro b x y).2 with
  | true=>rfl
  | false=>rw[hpro b x y h]at hb;cases hb
 unfold K0r
 dsimp only
 generalize hs:A0k (meFA F) 0 2 ((a.2.1,a.2.2.1),true)=s
 have hs2:s.2=true:=by rw[← hs];exact hA _
 generalize hx':F.pt s.2 (a.1,())=x
 have hx2:x.2=true:=by rw[← hx',hs2];exact hx _
 generalize hz:A0k (meFB F a.1.q s.1.1 x.1) 0 13 (mx0,x.2)=z
 have hz2:z.2=true:=by rw[← hz,hx2];exact J0w (fun i d=>hB ..) 13 0 mx0
 generalize hd:F.cen z.2 (N0r z.1)=d
 have hd2:d.2=true:=by rw[← hd,hz2];exact hcen _
 generalize hp:F.pro d.2 d.1.x d.1.x=p
 have hp2:p.2=true:=by rw[← hp];exact pro _ _ _ hd2
 generalize hc:F.pro p.2 x.1 d.1.x=c
 have hc2:c.2=true:=by rw[← hc];exact pro _ _ _ hp2
 generalize hn:F.ont c.2 p.1 67108864 268435456=n
 have hn2:n.2=true:=by rw[← hn,hc2];exact hont _ _ _
 generalize hy:A0k (meFD F d.1.m) 0 6 ((W0w s.1.2.a s.1.2.b).at,n.2)=y
 have hy2:y.2=true:=by rw[← hy,hn2];exact hD _ _
 generalize hl:F.rt y.2 (n.1,6,())=l
 have hl2:l.2=true:=by rw[← hl,hy2];exact hrt _
 generalize hu:F.so l.2 (l.1,R6.of y.1,6,())=u
 have hu2:u.2=true:=by rw[← hu,hl2];exact hso _
 generalize he:A0k (meFE F (R6.of y.1) u.1) 0 6 (0,u.2)=e
 have he2:e.2=true:=by rw[← he,hu2];exact hE _ _
 unfold T0m
 rw[he2]
 rfl
theorem D3p:GP.vu=N0q opsF:=by simp only[GP]
theorem C2p:GP.tu=tuF:=by simp only[GP]
theorem D3n:GP.qt=Q1m E0b:=by simp only[GP]
theorem C2k:GP.pt=ptF:=by simp only[GP]
theorem R1m:GP.cen=T0c opsF:=by simp only[GP]
theorem R1p:GP.pro=T0w opsF:=by simp only[GP]
theorem R1n:GP.ont=X0b opsF:=by simp only[GP]
theorem C2m:GP.rt=G0t opsF:=by simp only[GP]
theorem C2n:GP.so=V0a opsF:=by simp only[GP]
theorem M1p:Bad (N0q opsF):=fun a=>by
 have h:(E0t opsF true a).2=true:=rfl
 show (Y0p opsF a.1 (E0t opsF true a).1 (bif decide ((E0t opsF true a).1<1048576) then true else (E0t opsF true a).2)).2=true
 rw[h]
 cases decide ((E0t opsF true a).1<1048576)<;>rfl
theorem M1n:Bad (Q1m E0b):=fun _=>rfl
theorem R1y(x:X13):(T0c opsF true x).2=true:=by kernel_rfl
theorem J3q(F:GOps)(q:V4)(sky:P2)(r:R6)(b:Bool):(meB F q sky r b).2=(F.qt (F.qt (F.tu b ((D0m r).a,q,())).2 ((F.tu b ((D0m r).a,q,())).1,sky.a,())).2 ((F.tu b ((D0m r).a,q,())).1,sky.b,())).2:=rfl
theorem H2z(F:GOps)(m:R6)(i:Nat)(z:(Nat→Int)×Bool):(meFD F m i z).2=(F.o.sub z.2 (z.1 i) (m.at i)).2:=rfl
theorem J2a(F:GOps)(y u:R6)(i:Nat)(z:Int×Bool):(meFE F y u i z).2=(F.o.add (F.o.mul z.2 (y.at i) (u.at i)).2 z.1 (F.o.mul z.2 (y.at i) (u.at i)).1).2:=rfl
theorem K1g(a:Gs×P2×P2×Unit):(K0r GP true a).2=true:=by
 refine B1a (fun z=>?_) (fun a=>by rw[C2k];exact B3g a) (fun q sky r=>?_) (fun x=>by rw[R1m];exact R1y x) (fun b x y=>by rw[R1p];exact V1p) (fun m p q=>by rw[R1n];exact B1n m p q) (fun m y=>?_) (fun a=>by rw[C2m];exact B3h a) (fun a=>by rw[C2n];exact B3j a) (fun y u=>?_) a
 ·have step:∀i d,(meFA GP i (d,true)).2=true:=by
   intro i d
   have h:∀x y,(GP.vu (GP.vu true x).2 y).2=true:=fun x y=>by rw[D3p,M1p];exact M1p _
   unfold meFA
   cases i with
   | zero=>exact h (d.1.a,()) (d.2.a,())
   | succ n=>exact h (d.1.b,()) (d.2.b,())
  exact J0w step 2 0 z
 ·have h:∀x y z,(GP.qt (GP.qt (GP.tu true x).2 y).2 z).2=true:=fun x y z=>by rw[D3n,C2p,D2r,M1n];exact M1n _
  rw[J3q]
  exact h _ _ _
 ·have step:∀i d,(meFD GP m i (d,true)).2=true:=by
   intro i d
   rw[H2z,GPo]
   rfl
  exact J0w step 6 0 y
 ·have step:∀i d,(meFE GP y u i (d,true)).2=true:=by
   intro i d
   rw[J2a,GPo]
   rfl
  exact J0w step 6 0 0
theorem Z0z{x:CX}(h:(J0p x).1.seen.bad=false):GsIn (J0p x).2.1.guess:=by
 have hc:∀{c:Bool} {y z:CX},(y.1.seen.bad=false→GsIn y.2.1.guess)→(z.1.seen.bad=false→GsIn z.2.1.guess)→((bif c then y else z).1.seen.bad=false→GsIn (bif c then y else z).2.1.guess):=by
  intro c y z hy hz
  cases c
  ·exact hz
  ·exact hy
 have hE:∀(g:Gs) (p f:Bool),(f=false→QU g.q)→(N0v C0y x g p f).1.seen.bad=false→GsIn (N0v C0y x g p f).2.1.guess:=by
  intro g p f hg
  unfold N0v
  cases hd:decide ((C0y f (g,())).1>274877906944) with
  | true=>intro h;cases h
  | false =>
   intro h
   have h:(C0y f (g,())).2=false:=h
   obtain ⟨h1,h2,h3,h4⟩:=C1u h (of_decide_eq_false hd)
   exact ⟨hg h1,h2,h3,h4⟩
 have hM:∀(a:Gs×Bool),(a.2=false→QU a.1.q)→(N0w D1r C0y x a).1.seen.bad=false→GsIn (N0w D1r C0y x a).2.1.guess:=by
  intro a ha
  unfold N0w
  refine hc (hc (hE _ _ _ fun hf=>?_) (hE _ _ _ ha)) (hE _ _ _ ha)
  unfold D1r at hf ⊢
  rcases P1e a.2 a.1 x.1.sky x.1.body with ⟨h1,_⟩ | ⟨_,_,h3,_⟩ | ⟨_,_,h3,_⟩
  ·rw[h1]at hf;cases hf
  ·rw[h3]
   refine ha ?_
   cases h2:a.2 with
   | false=>rfl
   | true=>rw[h2,K1g]at hf;cases hf
  ·exact h3
 have hV:∀(g:Gs) (r:V3) (t:Int),(U1e false (g,r,t,())).2=false→QU (U1e false (g,r,t,())).1.q:=fun g r t h=>(P1k (b:=false) (g:=g) (rate:=r) (ms:=t) h).1
 revert h
 unfold J0p V2j
 exact hc (hc (hM _ (hV _ _ _)) (hM _ (hV _ _ _))) (hM _ (hV _ _ _))
end Go.Ab
