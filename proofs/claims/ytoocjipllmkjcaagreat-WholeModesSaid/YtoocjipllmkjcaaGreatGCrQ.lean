/- A part of the proofs: lemmas, no statement of their own; no condition. -/
import Derived.Test.YtoocjipllmkjcaaGreatGCrO
import Derived.Test.YtoocjipllmkjcaaGreatGBsA
import Derived.Test.YtoocjipllmkjcaaGreatGFrS
import Derived.Test.YtoocjipllmkjcaaGreatGFrK
import Derived.ProofKit
set_option linter.unusedSimpArgs false
namespace Go.Ab
open Go Go.Proofs
def wordsV(p:Int×Unit):Int:=bif p.1==1 then 3 else bif p.1==3 then 3 else bif p.1==2 then 6 else 0
theorem words209(k:Int):fnSum Tryz.prog {gam:=[]} [] 20 209 [.val (.int .i64 k)] []=bif k==1 then some (.val (.int .i64 3),[]) else bif k==3 then some (.val (.int .i64 3),[]) else bif k==2 then some (.val (.int .i64 6),[]) else some (.val (.int .i64 0),[]):=by kernel_rfl
theorem okWords:SumOk Tryz.prog 209 (S0 wordsV):=S0_ok (E:={gam:=[]}) GamOk.nil 20 fun a=>by
 refine (words209 a.1).trans ?_
 unfold wordsV
 cases a.1==1<;>cases a.1==3<;>cases a.1==2<;>rfl
theorem ba6(s:ByteArray)(h:s.size=6):∃c0 c1 c2 c3 c4 c5,s=ds6 c0 c1 c2 c3 c4 c5:=by
 obtain ⟨⟨l⟩⟩:=s
 match l,h with
 | [a,b,c,d,e,f],_=>exact ⟨a,b,c,d,e,f,rfl⟩
theorem ba12(s:ByteArray)(h:s.size=12):∃c0 c1 c2 c3 c4 c5 c6 c7 c8 c9 ca cb,s=ds12 c0 c1 c2 c3 c4 c5 c6 c7 c8 c9 ca cb:=by
 obtain ⟨⟨l⟩⟩:=s
 match l,h with
 | [a,b,c,d,e,f,a',b',c',d',e',f'],_=>exact ⟨a,b,c,d,e,f,a',b',c',d',e',f',rfl⟩
def gyF(ds:ByteArray)(i:Nat)(t:RdT):RdT:=rdG ds i t (bif t.ok then bif decide (gyN ds i≤30000) then decide (gyN ds i≥-30000) else false else false)
def suF(ds:ByteArray)(i:Nat)(t:RdT):RdT:=rdU ds i t (bif t.lit then true else suB ds i)
theorem gyT_eq(z:Int)(d ds:ByteArray)(i:Nat)(t:RdT):gyT z d ds i t=some (.normal,rdI1 1 z d ds (i+1) (gyF ds i t)):=by
 unfold gyT gyF
 cases t.ok
 ·rfl
 ·cases decide (gyN ds i≤30000)<;>rfl
theorem suT_eq(z:Int)(d ds:ByteArray)(i:Nat)(t:RdT):suT z d ds i t=some (.normal,rdI1 2 z d ds (i+1) (suF ds i t)):=by
 unfold suT suF
 cases t.lit<;>rfl
def rdRo(F:RdOps)(k:Int)(ds:ByteArray)(i:Nat)(t:RdT):RdT:=bif k==1 then gyF ds i t else bif k==2 then suF ds i t else rdM F ds i t
def rdEn(F:RdOps)(k:Int)(t:RdT):RdT:=bif k==1 then t else
 bif k==2 then ⟨(F.vu t.fl (t.v,())).1,bif t.ok then bif t.lit then !(F.vu t.fl (t.v,())).2 else false else false,t.lit,(F.vu t.fl (t.v,())).2⟩ else
 ⟨t.v,bif t.ok then bif decide ((F.vn t.fl (t.v,())).1≥1099511627776) then decide ((F.vn t.fl (t.v,())).1≤131941395333120) else false else false,t.lit,(F.vn t.fl (t.v,())).2⟩
def rdT0(F:RdOps)(z:Int):RdT:=⟨⟨0,0,0⟩,F.rt (z,()),false,false⟩
def rdT4(F:RdOps)(k:Int)(d:ByteArray):RdT:=rdEn F k (iterF (rdRo F k (d.extract 6 d.size)) 0 3 (rdT0 F (tickV d)))
def rdBad(F:RdOps)(k:Int)(d:ByteArray):Bool:=bif F.wd (k,())==0 then true else (d.size:Int) != IntKind.i64.wrap (6+IntKind.i64.wrap (2*F.wd (k,())))
def readO(F:RdOps)(p:Fr×Unit):Two Rdg Bool:=bif rdBad F p.1.kind p.1.data then ⟨⟨0,0,⟨0,0,0⟩⟩,false⟩ else bif !(rdT4 F p.1.kind p.1.data).ok then ⟨⟨0,0,⟨0,0,0⟩⟩,false⟩ else ⟨⟨p.1.kind,tickV p.1.data,(rdT4 F p.1.kind p.1.data).v⟩,true⟩
theorem rd_resS(k:Int)(d:ByteArray):resA Tryz.prog (rdS k d []) Tryz.f164.results.toList=some [.val (Cod.enc (Rdg.mk 0 0 ⟨0,0,0⟩)),.val (.bool false)]:=by kernel_rfl
theorem rd_resZ(r:Rdg)(b:Bool)(lo:Nat):resA Tryz.prog (rdZ r b lo) Tryz.f164.results.toList=some [.val (Cod.enc r),.val (.bool b)]:=by kernel_rfl
section
variable {F:RdOps} (hG:GamOk Tryz.prog (gamRd F)) (k:Int) (d:ByteArray)
include hG
theorem rd_rounds(z:Int)(ds:ByteArray)(hk:(k=1∧ds.size=6)∨(k=3∧ds.size=6)∨(k=2∧ds.size=12))(t:RdT):RunsTo Tryz.prog 165 (rdL 9) (rdJ k d z ds t []) .normal (rdJ k d z ds (iterF (rdRo F k ds) 0 3 t) []):=by
 rw[rd9_is]
 refine .seq (gRun_runs (E:={gam:=gamRd F}) hG (rd_q9 F k z d ds t)) ?_
 refine RunsTo.rounds (id:=2) (c:=rdLB) 3 (fun i t=>rdI1 k z d ds i t) (fun t=>rdJ k d z ds t []) (rdRo F k ds) (fun i t hi=>?_) (fun t=>gRun_runs (E:={gam:=gamRd F}) hG (rd_qX F k z d ds t)) t
 have go:∀{t2:RdT},rdCut F (rdI1 k z d ds i t)=some (.normal,rdI1 k z d ds (i+1) t2)→RunsTo Tryz.prog 165 rdLB (rdI1 k z d ds i t) .normal (rdI1 k z d ds (i+1) t2):=fun h=>gCut_runs (E:={gam:=gamRd F}) hG h rfl (rdI1_k ..) rfl
 have h3:i=0∨i=1∨i=2:=by omega
 rcases hk with ⟨rfl,hs⟩ | ⟨rfl,hs⟩ | ⟨rfl,hs⟩
 ·obtain ⟨c0,c1,c2,c3,c4,c5,rfl⟩:=ba6 ds hs
  rcases h3 with rfl | rfl | rfl
  ·exact go ((rd_g0 F z d c0 c1 c2 c3 c4 c5 t).trans (gyT_eq ..))
  ·exact go ((rd_g1 F z d c0 c1 c2 c3 c4 c5 t).trans (gyT_eq ..))
  ·exact go ((rd_g2 F z d c0 c1 c2 c3 c4 c5 t).trans (gyT_eq ..))
 ·obtain ⟨c0,c1,c2,c3,c4,c5,rfl⟩:=ba6 ds hs
  rcases h3 with rfl | rfl | rfl
  ·exact go (rd_m0 F z d c0 c1 c2 c3 c4 c5 t)
  ·exact go (rd_m1 F z d c0 c1 c2 c3 c4 c5 t)
  ·exact go (rd_m2 F z d c0 c1 c2 c3 c4 c5 t)
 ·obtain ⟨c0,c1,c2,c3,c4,c5,c6,c7,c8,c9,ca,cb,rfl⟩:=ba12 ds hs
  rcases h3 with rfl | rfl | rfl
  ·exact go ((rd_s0 F z d c0 c1 c2 c3 c4 c5 c6 c7 c8 c9 ca cb t).trans (suT_eq ..))
  ·exact go ((rd_s1 F z d c0 c1 c2 c3 c4 c5 c6 c7 c8 c9 ca cb t).trans (suT_eq ..))
  ·exact go ((rd_s2 F z d c0 c1 c2 c3 c4 c5 c6 c7 c8 c9 ca cb t).trans (suT_eq ..))
theorem rd_end(z:Int)(ds:ByteArray)(hk:k=1∨k=3∨k=2)(t:RdT):RunsTo Tryz.prog 165 (rdL 10) (rdJ k d z ds t []) .normal (rdJ k d z ds (rdEn F k t) []):=by
 rcases hk with rfl | rfl | rfl
 ·exact gRun_runs (E:={gam:=gamRd F}) hG (rd_q10g F z d ds t)
 ·refine gRun_runs (E:={gam:=gamRd F}) hG ((rd_q10m F z d ds t).trans ?_)
  show _=some (Ex.normal,rdJ 3 d z ds ⟨t.v,bif t.ok then bif decide ((F.vn t.fl (t.v,())).1≥1099511627776) then decide ((F.vn t.fl (t.v,())).1≤131941395333120) else false else false,t.lit,(F.vn t.fl (t.v,())).2⟩ [])
  cases t.ok
  ·rfl
  ·cases decide ((F.vn t.fl (t.v,())).1≥1099511627776)<;>rfl
 ·refine gRun_runs (E:={gam:=gamRd F}) hG ((rd_q10s F z d ds t).trans ?_)
  show _=some (Ex.normal,rdJ 2 d z ds ⟨(F.vu t.fl (t.v,())).1,bif t.ok then bif t.lit then !(F.vu t.fl (t.v,())).2 else false else false,t.lit,(F.vu t.fl (t.v,())).2⟩ [])
  cases t.ok
  ·rfl
  ·cases t.lit<;>rfl
theorem rd_all(hb:rdBad F k d=false)(hk:(k=1∧d.size=12)∨(k=3∧d.size=12)∨(k=2∧d.size=18)) :
  ∃r b,RunsTo Tryz.prog 165 (.seq (rdL 0) (.seq (rdL 1) (.seq (rdL 2) (.seq (rdL 3) (.seq (rdL 4) (.seq (rdL 5) (.seq (rdL 6) (.seq (rdL 7) (.seq (rdL 8) (.seq (rdL 9) (.seq (rdL 10) (rdR 11)))))))))))) (startS 165 [.val (Cod.enc (Fr.mk k d))] []) .ret (rdZ r b rN4)∧readO F (⟨k,d⟩,())=⟨r,b⟩:=by
 have h6:6≤d.size:=by omega
 have hds:(d.extract 6 d.size).size=d.size-6:=by rw[ByteArray.size_extract];omega
 have hq2:rdRun F (rdL 2) (rdS k d [(4,.val (.int .i64 (F.wd (k,()))))]) [4096,rN1] [1,2,3]=some (.normal,rdS k d []):=by
  rw[rd_q2]
  unfold rdBad at hb
  revert hb
  cases F.wd (k,())==0
  ·cases (d.size:Int) != IntKind.i64.wrap (6+IntKind.i64.wrap (2*F.wd (k,())))
   ·intro _;rfl
   ·intro h;cases h
  ·intro h;cases h
 have hq5:=rd_q5 F k (tickV d) d
 rw[decide_eq_true (by omega),cond_true]at hq5
 have main:∀(s:St) ,rdRun F (rdR 11) (rdJ k d (tickV d) (d.extract 6 d.size) (rdT4 F k d) []) [rN1] [2,3]=some (.ret,s)→RunsTo Tryz.prog 165 (.seq (rdL 0) (.seq (rdL 1) (.seq (rdL 2) (.seq (rdL 3) (.seq (rdL 4) (.seq (rdL 5) (.seq (rdL 6) (.seq (rdL 7) (.seq (rdL 8) (.seq (rdL 9) (.seq (rdL 10) (rdR 11)))))))))))) (startS 165 [.val (Cod.enc (Fr.mk k d))] []) .ret s:=by
  intro s hs
  refine .seq (gRun_runs (E:={gam:=gamRd F}) hG (rd_q0 F k d)) (.seq (gRun_runs (E:={gam:=gamRd F}) hG (rd_q1 F k d)) (.seq (gRun_runs (E:={gam:=gamRd F}) hG hq2) (.seq (gRun_runs (E:={gam:=gamRd F}) hG (rd_q3 F k d)) (.seq (rd_p4 hG k d h6) (.seq (gRun_runs (E:={gam:=gamRd F}) hG hq5) ?_)))))
  refine .seq (gRun_runs (E:={gam:=gamRd F}) hG (rd_q6 F k (tickV d) d _)) (.seq (gRun_runs (E:={gam:=gamRd F}) hG (rd_q7 F k (tickV d) d _)) (.seq (gRun_runs (E:={gam:=gamRd F}) hG (rd_q8 F k (tickV d) d _ _)) (.seq (rd_rounds hG k d (tickV d) _ ?_ _) (.seq (rd_end hG k d (tickV d) _ ?_ _) (gRun_runs (E:={gam:=gamRd F}) hG hs)))))
  ·rcases hk with ⟨h1,h2⟩ | ⟨h1,h2⟩ | ⟨h1,h2⟩
   ·exact .inl ⟨h1,by omega⟩
   ·exact .inr (.inl ⟨h1,by omega⟩)
   ·exact .inr (.inr ⟨h1,by omega⟩)
  ·rcases hk with ⟨h1,h2⟩ | ⟨h1,h2⟩ | ⟨h1,h2⟩
   ·exact .inl h1
   ·exact .inr (.inl h1)
   ·exact .inr (.inr h1)
 have hq:=rd_q11 F k (tickV d) d (d.extract 6 d.size) (rdT4 F k d)
 unfold readO
 dsimp only
 rw[hb]
 cases hok:(rdT4 F k d).ok with
 | true =>
  rw[hok]at hq
  exact ⟨_,_,main _ hq,rfl⟩
 | false =>
  rw[hok]at hq
  exact ⟨_,_,main _ hq,rfl⟩
theorem rd_bad(hb:rdBad F k d=true):RunsTo Tryz.prog 165 (.seq (rdL 0) (.seq (rdL 1) (.seq (rdL 2) (.seq (rdL 3) (.seq (rdL 4) (.seq (rdL 5) (.seq (rdL 6) (.seq (rdL 7) (.seq (rdL 8) (.seq (rdL 9) (.seq (rdL 10) (rdR 11)))))))))))) (startS 165 [.val (Cod.enc (Fr.mk k d))] []) .ret (rdS k d []):=by
 have hq2:rdRun F (rdL 2) (rdS k d [(4,.val (.int .i64 (F.wd (k,()))))]) [4096,rN1] [1,2,3]=some (.ret,rdS k d []):=by
  rw[rd_q2]
  unfold rdBad at hb
  revert hb
  cases F.wd (k,())==0
  ·cases (d.size:Int) != IntKind.i64.wrap (6+IntKind.i64.wrap (2*F.wd (k,())))
   ·intro h;cases h
   ·intro _;rfl
  ·intro _;rfl
 exact .seq (gRun_runs (E:={gam:=gamRd F}) hG (rd_q0 F k d)) (.seq (gRun_runs (E:={gam:=gamRd F}) hG (rd_q1 F k d)) (RunsTo.seqR (gRun_runs (E:={gam:=gamRd F}) hG hq2)))
end
def RD:RdOps:={wd:=wordsV,rt:=fun p=>isTick p.1,pt:=op3 fpart,vn:=vnorm opsF,vu:=vunit opsF}
theorem gamRD:GamOk Tryz.prog (gamRd RD):=.cons okWords (.cons ok40 (.cons ok116 (.cons ok66 (.cons ok68 .nil))))
def readV:Fr×Unit→Two Rdg Bool:=readO RD
theorem rd_kinds{k:Int}{d:ByteArray}(hb:rdBad RD k d=false):(k=1∧d.size=12)∨(k=3∧d.size=12)∨(k=2∧d.size=18):=by
 have hw:RD.wd (k,())=wordsV (k,()):=rfl
 unfold rdBad at hb
 rw[hw]at hb
 by_cases h1:k=1
 ·subst h1
  refine .inl ⟨rfl,?_⟩
  have:((d.size:Int) != 12)=false:=hb
  simp at this
  omega
 by_cases h3:k=3
 ·subst h3
  refine .inr (.inl ⟨rfl,?_⟩)
  have:((d.size:Int) != 12)=false:=hb
  simp at this
  omega
 by_cases h2:k=2
 ·subst h2
  refine .inr (.inr ⟨rfl,?_⟩)
  have:((d.size:Int) != 18)=false:=hb
  simp at this
  omega
 ·have e:wordsV (k,())=0:=by
   unfold wordsV
   dsimp only
   rw[beq_eq_false_iff_ne.2 h1,beq_eq_false_iff_ne.2 h3,beq_eq_false_iff_ne.2 h2]
   rfl
  rw[e]at hb
  cases hb
theorem okRead:SumOk Tryz.prog 164 (S0 readV):=by
 intro args cs r cs' hs
 obtain ⟨⟨⟨k,d⟩,_⟩,rfl,rfl,rfl,rfl⟩:=S0_sel hs
 cases hb:rdBad RD k d with
 | true =>
  have e:readV (⟨k,d⟩,())=⟨⟨0,0,⟨0,0,0⟩⟩,false⟩:=by unfold readV readO;dsimp only;rw[hb];rfl
  rw[e]
  exact sum_runs f164_is rd_is rd_N (by show 1≤165;omega) (by simp) rfl rfl rfl (.inr rfl) (rd_bad gamRD k d hb) (rd_resS ..) rfl rfl (fun _ _ h=>by simp at h) rfl rfl
 | false =>
  obtain ⟨r,b,h1,h2⟩:=rd_all gamRD k d hb (rd_kinds hb)
  have e:readV (⟨k,d⟩,())=⟨r,b⟩:=h2
  rw[e]
  exact sum_runs f164_is rd_is rd_N (by show 1≤165;omega) (by simp) rfl rfl rfl (.inr rfl) h1 (rd_resZ ..) rfl rfl (fun _ _ h=>by simp at h) rfl rfl
end Go.Ab
namespace Go.Ab
open Go Go.Proofs
def HR:HrOps:={rj:=rejX,rd:=readV,fr:=freshV,od:=orderX}
theorem gamHR:GamOk Tryz.prog (hrG HR):=.cons okReject (.cons okRead (.cons okFresh (.cons okOrderX .nil)))
def ST:StOps:={rt:=fun p=>isTick p.1,hp:=hearPre,he:=hearO HR,bp:=stepPre,bd:=stepV,lk:=lookX,fi:=filterX,pl:=planX,dp:=dipole opsF,ct:=countsV,wr:=writeV,wp:=fun p=>wrapV p.1}
theorem gamST:GamOk Tryz.prog (gamSt ST):=.cons ok40 (.cons (okHear gamHR) (.cons ok58 (.cons okLook (.cons okFilter (.cons okPlan (.cons ok60 (.cons okCounts (.cons okWrite (.cons (S0_of_w okWrap) .nil)))))))))
def craftPre(p:StpA):Bool:=stepPreO ST p
def craftV(p:StpA):Two Crf ByteArray:=stepO ST p
theorem okCraft:SumOk Tryz.prog 25 (S0w craftPre craftV):=okStep gamST
end Go.Ab
namespace Go.Ab
open Go Go.Proofs
theorem wrap_some(f:Fr)(hk:0≤f.kind∧f.kind≤255)(hd:f.data.size≤64):∃l,(wrapV f).a=bsL (165 :: l):=by
 unfold wrapV
 rw[decide_eq_false (by omega),decide_eq_false (by omega),decide_eq_false (by omega)]
 exact ⟨_,rfl⟩
theorem wrStr_size(t:Tl):(wrStr t).size=26:=by kernel_rfl
theorem write_some(t:Tl):(0≤(writeV (t,())).a.kind∧(writeV (t,())).a.kind≤255)∧(writeV (t,())).a.data.size≤64:=by
 unfold writeV
 dsimp only
 cases tlRight t
 ·exact ⟨⟨by show (0:Int)≤0;decide,by show (0:Int)≤255;decide⟩,by show (0:Nat)≤64;omega⟩
 ·refine ⟨⟨by show (0:Int)≤32;decide,by show (32:Int)≤255;decide⟩,?_⟩
  show (wrStr t).size≤64
  rw[wrStr_size]
  omega
theorem told_some(x:CX):∃l,cstT ST x=bsL (165 :: l):=by
 have h:∀m,∃l,teB ST x m=bsL (165 :: l):=fun m=>wrap_some _ (write_some _).1 (write_some _).2
 unfold cstT
 cases x.2.1.plan.mode==0
 ·exact h _
 ·exact h _
end Go.Ab
namespace Go.Ab
open Go Go.Proofs
theorem tick_in{t:Int}(h:isTick t=true):0≤t∧t≤157766400000:=by
 unfold isTick at h
 cases h0:decide (0≤t) with
 | false=>rw[h0]at h;cases h
 | true =>
  rw[h0,cond_true]at h
  exact ⟨of_decide_eq_true h0,of_decide_eq_true h⟩
theorem wr_byte(t:Tl)(i:Nat)(x:Int)(hx:(wrInts t)[i]?=some (IntKind.u8.wrap x)):byT (wrStr t) i=x % 256:=by rw[byT_wr t i _ hx,u8_back]
theorem pow_fd(x:Int):x.fdiv (2^40)=x / 1099511627776∧x.fdiv (2^32)=x / 4294967296∧x.fdiv (2^24)=x / 16777216∧x.fdiv (2^16)=x / 65536∧x.fdiv (2^8)=x / 256∧x.fdiv (2^0)=x:=by
 refine ⟨fd _ _ (by decide),fd _ _ (by decide),fd _ _ (by decide),fd _ _ (by decide),fd _ _ (by decide),?_⟩
 rw[fd _ _ (by decide)]
 show x / 1=x
 omega
theorem dec_tick{t:Tl}(h:TlIn t):tkD (wrStr t) (tkD (wrStr t) (tkD (wrStr t) (tkD (wrStr t) (tkD (wrStr t) (tkD (wrStr t) 0 0) 1) 2) 3) 4) 5=t.tk:=by
 obtain ⟨h0,h1⟩:=tick_in h.tk
 obtain ⟨f0,f1,f2,f3,f4,f5⟩:=pow_fd t.tk
 have b0:=wr_byte t 0 (t.tk.fdiv (2^40)) rfl
 have b1:=wr_byte t 1 (t.tk.fdiv (2^32)) rfl
 have b2:=wr_byte t 2 (t.tk.fdiv (2^24)) rfl
 have b3:=wr_byte t 3 (t.tk.fdiv (2^16)) rfl
 have b4:=wr_byte t 4 (t.tk.fdiv (2^8)) rfl
 have b5:=wr_byte t 5 (t.tk.fdiv (2^0)) rfl
 rw[f0]at b0
 rw[f1]at b1
 rw[f2]at b2
 rw[f3]at b3
 rw[f4]at b4
 rw[f5]at b5
 have r0:=byT_range (wrStr t) 0
 have r1:=byT_range (wrStr t) 1
 have r2:=byT_range (wrStr t) 2
 have r3:=byT_range (wrStr t) 3
 have r4:=byT_range (wrStr t) 4
 have r5:=byT_range (wrStr t) 5
 rw[tkD_is (wrStr t) 0 0 (by omega) (by omega)]
 rw[tkD_is (wrStr t) _ 1 (by omega) (by omega)]
 rw[tkD_is (wrStr t) _ 2 (by omega) (by omega)]
 rw[tkD_is (wrStr t) _ 3 (by omega) (by omega)]
 rw[tkD_is (wrStr t) _ 4 (by omega) (by omega)]
 rw[tkD_is (wrStr t) _ 5 (by omega) (by omega)]
 have :=tick_back h0 (by omega) b0 b1 b2 b3 b4 b5
 omega
theorem dec_small{x:Int}(h:0≤x∧x≤255)(t:Tl)(i:Nat)(hx:(wrInts t)[i]?=some (IntKind.u8.wrap x)):wI (byT (wrStr t) i)=x:=by
 rw[wr_byte t i x hx,wI_id (by omega) (by omega)]
 omega
theorem dec_rej{t:Tl}(h:TlIn t):wI (wI (wI (byT (wrStr t) 10)*256)+wI (byT (wrStr t) 11))=t.rej:=by
 obtain ⟨h0,h1⟩:=h.rej
 have b0:=wr_byte t 10 (t.rej.fdiv (2^8)) rfl
 have b1:=wr_byte t 11 t.rej rfl
 rw[(pow_fd t.rej).2.2.2.2.1]at b0
 have e1:=wI_id (x:=byT (wrStr t) 10) (by omega) (by omega)
 have e2:=wI_id (x:=byT (wrStr t) 11) (by omega) (by omega)
 have e3:=wI_id (x:=byT (wrStr t) 10*256) (by omega) (by omega)
 rw[e1,e2,e3,wI_id (by omega) (by omega)]
 omega
theorem dec_cnt{q:Int}(h:-32768≤q∧q≤32767)(t:Tl)(i:Nat)(hi:i<100)(h1:(wrInts t)[i]?=some (IntKind.u8.wrap (q.fdiv (2^8))))(h2:(wrInts t)[i+1]?=some (IntKind.u8.wrap q)):cntT (wrStr t,(i:Int),())=q:=by
 refine cnt_back h (wrStr t) i hi ?_ (wr_byte t (i+1) q h2)
 rw[wr_byte t i _ h1,(pow_fd q).2.2.2.2.1]
theorem dec_wr{t:Tl}(h:TlIn t):decT cntT (wrStr t)=t:=by
 unfold decT
 rw[dec_tick h,dec_small ⟨h.mode.1,by have :=h.mode.2;omega⟩ t 6 rfl,dec_small ⟨h.faults.1,by have :=h.faults.2;omega⟩ t 7 rfl,dec_small h.ack t 8 rfl,dec_small h.err t 9 rfl,dec_rej h]
 have c0:=dec_cnt h.q0 t 12 (by omega) rfl rfl
 have c1:=dec_cnt h.q1 t 14 (by omega) rfl rfl
 have c2:=dec_cnt h.q2 t 16 (by omega) rfl rfl
 have c3:=dec_cnt h.q3 t 18 (by omega) rfl rfl
 have c4:=dec_cnt h.d0 t 20 (by omega) rfl rfl
 have c5:=dec_cnt h.d1 t 22 (by omega) rfl rfl
 have c6:=dec_cnt h.d2 t 24 (by omega) rfl rfl
 rw[show (12:Int)=((12:Nat):Int) from rfl,c0,show (14:Int)=((14:Nat):Int) from rfl,c1,show (16:Int)=((16:Nat):Int) from rfl,c2,show (18:Int)=((18:Nat):Int) from rfl,c3,
  show (20:Int)=((20:Nat):Int) from rfl,c4,show (22:Int)=((22:Nat):Int) from rfl,c5,show (24:Int)=((24:Nat):Int) from rfl,c6]
theorem in_true{n l m:Int}(h:l≤n∧n≤m):inV (n,l,m,())=true:=by
 unfold inV
 dsimp only
 rw[decide_eq_true h.1,decide_eq_true h.2]
 rfl
theorem right_in{t:Tl}(h:TlIn t):rightR t=true:=by
 unfold rightR rightO
 dsimp only
 rw[h.tk,in_true h.mode,in_true h.faults,in_true h.ack,in_true h.err,in_true h.rej,in_true h.q0,in_true h.q1,in_true h.q2,in_true h.q3,in_true h.d0,in_true h.d1,in_true h.d2]
 rfl
theorem read_wr{t:Tl}(h:tlRight t=true):readTl (wrStr t)=⟨t,true⟩:=by
 have h:=tlRight_in h
 unfold readTl
 rw[dec_wr h,right_in h]
 rfl
def toldO(op:ByteArray×Unit→Two Fr Bool)(rd:Fr×Unit→Two Tl Bool)(s:ByteArray):Two Tl Bool:=⟨(rd ((op (s,())).a,())).a,bif (op (s,())).b then (rd ((op (s,())).a,())).b else false⟩
theorem told44(op:ByteArray×Unit→Two Fr Bool)(po:ByteArray×Unit→Bool)(rd:Fr×Unit→Two Tl Bool)(pr:Fr×Unit→Bool)(s:ByteArray):fnSum Tryz.prog {gam:=[(29,S0w po op),(30,S0c pr rd)]} [] 20 44 [.val (.string s)] [] =
  bif po (s,()) then bif pr ((op (s,())).a,()) then bif (op (s,())).b then some (.val (Cod.enc (Two.mk (rd ((op (s,())).a,())).a (rd ((op (s,())).a,())).b)),[]) else some (.val (Cod.enc (Two.mk (rd ((op (s,())).a,())).a false)),[]) else none else none:=by kernel_rfl
end Go.Ab
namespace Go.Ab
open Go Go.Proofs
structure PlIn(p:Pl):Prop where
 mode:0≤p.mode∧p.mode≤3
 calm:0≤p.calm∧p.calm≤2
 good:0≤p.good∧p.good≤1
 miss:0≤p.miss∧p.miss≤4
 lost:0≤p.lost∧p.lost≤2
 faults:0≤p.faults∧p.faults≤15
theorem or_fin:∀n:Fin 16,(0≤orV n.val 1∧orV n.val 1≤15)∧(0≤orV n.val 2∧orV n.val 2≤15)∧(0≤orV n.val 4∧orV n.val 4≤15)∧(0≤orV n.val 8∧orV n.val 8≤15):=by decide +kernel
theorem or_range{f:Int}(h:0≤f∧f≤15):(0≤orV f 1∧orV f 1≤15)∧(0≤orV f 2∧orV f 2≤15)∧(0≤orV f 4∧orV f 4≤15)∧(0≤orV f 8∧orV f 8≤15):=by
 obtain ⟨n,rfl⟩:∃n:Nat,f=n:=⟨f.toNat,by omega⟩
 exact or_fin ⟨n,by omega⟩
theorem to_in{m f:Int}(hm:0≤m∧m≤3)(hf:0≤f∧f≤15):PlIn (toV m f):=⟨hm,by show (0:Int)≤0∧(0:Int)≤2;omega,by show (0:Int)≤0∧(0:Int)≤1;omega,by show (0:Int)≤0∧(0:Int)≤4;omega,by show (0:Int)≤0∧(0:Int)≤2;omega,hf⟩
theorem cnt_in{n k:Int}(h0:0≤n)(h1:n≤50)(hk:¬ cntV n≥k)(_:k≤50):0≤cntV n∧cntV n<k:=by
 unfold cntV at hk ⊢
 rw[decide_eq_false (by omega),cond_false]at hk ⊢
 rw[wrapM]at hk ⊢
 omega
theorem next_in{p:Pl}(h:PlIn p)(s:Sn):PlIn (nextV p s):=by
 obtain ⟨o1,o2,o4,o8⟩:=or_range h.faults
 have hm:=h.mode
 have hc:=h.calm
 have hg:=h.good
 have hi:=h.miss
 have hl:=h.lost
 have hf:=h.faults
 unfold nextV
 cases s.order==1 with
 | true=>exact to_in (by omega) hf
 | false =>
 rw[cond_false]
 cases p.mode==3 with
 | true =>
  rw[cond_true]
  cases s.order==2 with
  | true=>exact to_in (by omega) (by omega)
  | false=>exact h
 | false =>
 rw[cond_false]
 cases p.mode==0 with
 | true =>
  rw[cond_true]
  cases s.gyro&&s.slow with
  | true =>
   simp only[cond_true]
   cases hd:decide (cntV p.calm≥3) with
   | true=>exact to_in (by omega) hf
   | false =>
    have :=cnt_in (by omega) (by omega) (of_decide_eq_false hd) (by omega)
    exact ⟨hm,by show 0≤cntV p.calm∧cntV p.calm≤2;omega,hg,hi,hl,hf⟩
  | false=>exact ⟨hm,by show (0:Int)≤0∧(0:Int)≤2;omega,hg,hi,hl,hf⟩
 | false =>
 rw[cond_false]
 cases p.mode==1 with
 | true =>
  rw[cond_true]
  cases s.gap with
  | true=>exact to_in (by omega) o1
  | false =>
  rw[cond_false]
  cases s.gyro&&!s.slow with
  | true=>exact to_in (by omega) hf
  | false =>
  rw[cond_false]
  cases s.gyro&&(s.pair&&s.lit) with
  | true =>
   simp only[cond_true]
   cases hd:decide (cntV p.good≥2) with
   | true=>exact to_in (by omega) hf
   | false =>
    have :=cnt_in (by omega) (by omega) (of_decide_eq_false hd) (by omega)
    exact ⟨hm,hc,by show 0≤cntV p.good∧cntV p.good≤1;omega,hi,hl,hf⟩
  | false=>exact ⟨hm,hc,by show (0:Int)≤0∧(0:Int)≤1;omega,hi,hl,hf⟩
 | false =>
 rw[cond_false]
 cases p.mode==2 with
 | false=>exact to_in (by omega) hf
 | true =>
 rw[cond_true]
 unfold fineV
 cases s.gap with
 | true=>exact to_in (by omega) o1
 | false =>
 rw[cond_false]
 cases s.bad with
 | true=>exact to_in (by omega) o4
 | false =>
 rw[cond_false]
 have key:∀lost:Int,(¬ lost≥3→0≤lost∧lost≤2)→PlIn (bif decide (lost≥3) then toV 1 (orV p.faults 2) else bif s.pair&&s.lit then
    let miss:=bif s.pass then 0 else cntV p.miss
    bif decide (miss≥5) then toV 1 (orV p.faults 8) else ⟨p.mode,p.calm,p.good,miss,lost,p.faults⟩
   else ⟨p.mode,p.calm,p.good,p.miss,lost,p.faults⟩):=by
  intro lost hlo
  cases hd:decide (lost≥3) with
  | true=>exact to_in (by omega) o2
  | false =>
   have hlo:=hlo (of_decide_eq_false hd)
   rw[cond_false]
   cases s.pair&&s.lit with
   | false=>exact ⟨hm,hc,hg,hi,hlo,hf⟩
   | true =>
    simp only[cond_true]
    cases s.pass with
    | true=>exact ⟨hm,hc,hg,by show (0:Int)≤0∧(0:Int)≤4;omega,hlo,hf⟩
    | false =>
     simp only[cond_false]
     cases hd2:decide (cntV p.miss≥5) with
     | true=>exact to_in (by omega) o8
     | false =>
      have :=cnt_in (by omega) (by omega) (of_decide_eq_false hd2) (by omega)
      exact ⟨hm,hc,hg,by show 0≤cntV p.miss∧cntV p.miss≤4;omega,hlo,hf⟩
 cases s.gyro with
 | true=>exact key 0 fun _=>by omega
 | false =>
  refine key (cntV p.lost) fun hn=>?_
  have :=cnt_in (by omega) (by omega) hn (by omega)
  omega
structure XIn(tk gap:Int)(g:Bool)(m:Int)(N:Nat)(x:CX):Prop where
 lsz:x.2.1.left.size≤N
 stk:x.1.tk=tk
 sgap:x.1.gap=gap
 seen:x.1.seen.gap=g
 mode:x.2.1.plan.mode=m
 pl:PlIn x.2.1.plan
 rej:0≤x.2.1.rej∧x.2.1.rej≤65535
 ack:0≤x.2.1.ack∧x.2.1.ack≤255
 err:0≤x.2.1.err∧x.2.1.err≤3
 dt:i64? x.2.1.drift.tick=true
 r3:x.2.2.p3=true→isTick x.2.2.r3.tk=true
theorem rej_in{n:Int}(h:0≤n∧n≤65535):0≤rejV n∧rejV n≤65535:=by
 unfold rejV
 split<;>(rw[wrapM];omega)
theorem XIn.rejd{tk gap m:Int}{g:Bool}{N:Nat}{x:CX}(h:XIn tk gap g m N x):XIn tk gap g m N (rejX x):={h with rej:=rej_in h.rej}
theorem byA_in(d:ByteArray)(i:Nat):0≤IntKind.i64.wrap (byA d i)∧IntKind.i64.wrap (byA d i)≤255:=by
 unfold byA
 have :=(d.data.toList.getD i 0).toNat_lt
 rw[wrapM]
 omega
theorem ord_in(p:Fr×Unit):(0≤(ordV p).a.seq∧(ordV p).a.seq≤255)∧(0≤(ordV p).b∧(ordV p).b≤3):=by
 have hb:=byA_in p.1.data 0
 have key:∀(c:Bool) (x y:Two Odr Int),((0≤x.a.seq∧x.a.seq≤255)∧(0≤x.b∧x.b≤3))→((0≤y.a.seq∧y.a.seq≤255)∧(0≤y.b∧y.b≤3))→((0≤(bif c then x else y).a.seq∧(bif c then x else y).a.seq≤255)∧(0≤(bif c then x else y).b∧(bif c then x else y).b≤3)):=by
  intro c x y hx hy
  cases c
  ·exact hy
  ·exact hx
 have z:∀e:Int,0≤e→e≤3→(0≤(Two.mk odr0 e).a.seq∧(Two.mk odr0 e).a.seq≤255)∧(0≤(Two.mk odr0 e).b∧(Two.mk odr0 e).b≤3):=fun e h0 h1=>⟨⟨by show (0:Int)≤0;omega,by show (0:Int)≤255;omega⟩,h0,h1⟩
 unfold ordV ordO
 exact key _ _ _ (z 1 (by omega) (by omega)) (key _ _ _ (z 1 (by omega) (by omega)) (key _ _ _ ⟨hb,by show (0:Int)≤2∧(2:Int)≤3;omega⟩ (key _ _ _ ⟨hb,by show (0:Int)≤1∧(1:Int)≤3;omega⟩ (key _ _ _ (key _ _ _ ⟨hb,by show (0:Int)≤3∧(3:Int)≤3;omega⟩ ⟨hb,by show (0:Int)≤0∧(0:Int)≤3;omega⟩) ⟨hb,by show (0:Int)≤0∧(0:Int)≤3;omega⟩))))
theorem XIn.order{tk gap m:Int}{g:Bool}{N:Nat}{x:CX}(h:XIn tk gap g m N x)(f:Fr×Unit):XIn tk gap g m N (orderX x f):=by
 have hc:∀(c:Bool) (y z:CX),XIn tk gap g m N y→XIn tk gap g m N z→XIn tk gap g m N (bif c then y else z):=by
  intro c y z hy hz
  cases c
  ·exact hz
  ·exact hy
 have ho:=ord_in f
 have ha:XIn tk gap g m N (ackX x (ordV f)):={h with ack:=ho.1,err:=ho.2}
 unfold orderX orderO
 exact hc _ _ _ ha.rejd (hc _ _ _ {ha with} (hc _ _ _ {ha with} (hc _ _ _ {ha with} (hc _ _ _ {ha with rej:=by show (0:Int)≤0∧(0:Int)≤65535;omega,pl:=⟨h.pl.mode,h.pl.calm,h.pl.good,h.pl.miss,h.pl.lost,by show (0:Int)≤0∧(0:Int)≤15;omega⟩} ha))))
theorem read_tick(d:ByteArray)(h:(readV (⟨3,d⟩,())).b=true):isTick (readV (⟨3,d⟩,())).a.tk=true:=by
 have e:readV (⟨3,d⟩,())=bif rdBad RD 3 d then ⟨⟨0,0,⟨0,0,0⟩⟩,false⟩ else bif !(rdT4 RD 3 d).ok then ⟨⟨0,0,⟨0,0,0⟩⟩,false⟩ else ⟨⟨3,tickV d,(rdT4 RD 3 d).v⟩,true⟩:=rfl
 rw[e]at h ⊢
 revert h
 cases rdBad RD 3 d with
 | true=>intro h;cases h
 | false =>
  have h3:(iterF (rdRo RD 3 (d.extract 6 d.size)) 0 3 (rdT0 RD (tickV d))).ok=(rdT0 RD (tickV d)).ok:=rfl
  cases ht:isTick (tickV d) with
  | true =>
   cases (rdT4 RD 3 d).ok with
   | true=>intro _;exact ht
   | false=>intro h;cases h
  | false =>
   have h0:(rdT0 RD (tickV d)).ok=false:=ht
   rw[h0]at h3
   have hok:(rdT4 RD 3 d).ok=false:=by
    unfold rdT4 rdEn
    rw[show ((3:Int)==1)=false from rfl,show ((3:Int)==2)=false from rfl,cond_false,cond_false,h3]
    rfl
   rw[hok]
   intro h
   cases h
theorem XIn.hear{tk gap m:Int}{g:Bool}{N:Nat}{x:CX}(h:XIn tk gap g m N x)(f:Fr):XIn tk gap g m N (hearF HR x f):=by
 have hc:∀(c:Bool) (y z:CX),(c=true→XIn tk gap g m N y)→XIn tk gap g m N z→XIn tk gap g m N (bif c then y else z):=by
  intro c y z hy hz
  cases c
  ·exact hz
  ·exact hy rfl
 have sens:∀p:CX,((readV (f,())).b=true→XIn tk gap g m N p)→XIn tk gap g m N (sensX HR x f p):=fun p hp=>by
  unfold sensX
  exact hc _ _ _ (fun hb=>hc _ _ _ (fun _=>hp hb) h.rejd) h.rejd
 unfold hearF
 refine hc _ _ _ (fun _=>sens _ fun _=>{h with}) (hc _ _ _ (fun _=>sens _ fun _=>{h with}) (hc _ _ _ (fun h3=>sens _ fun hb=>{h with r3:=fun _=>?_}) (hc _ _ _ (fun _=>h.order _) h.rejd)))
 obtain ⟨k,d⟩:=f
 have hk:k=3:=by simpa using h3
 subst hk
 exact read_tick d hb
theorem XIn.hears{tk gap m:Int}{g:Bool}{N:Nat}:∀(fs:List Fr) {x:CX},XIn tk gap g m N x→XIn tk gap g m N (fs.foldl (hearF HR) x)
 | [],_,h=>h
 | f :: fs,_,h=>XIn.hears fs (h.hear f)
theorem scan_left:∀(n:Nat) (l:List UInt8),l.length≤n→(scanV l).2.1.length≤l.length:=by
 intro n
 induction n with
 | zero =>
  intro l h
  have:l=[]:=List.eq_nil_of_length_eq_zero (by omega)
  subst this
  rw[scan_nil]
  exact Nat.le_refl _
 | succ n ih =>
  intro l h
  cases l with
  | nil=>rw[scan_nil];exact Nat.le_refl _
  | cons b r =>
   have hr:r.length≤n:=by simpa using h
   have hskip:∀x:Scd,(skipS x).2.1=x.2.1:=fun _=>rfl
   by_cases hb:b=165
   ·subst hb
    rw[scan_165]
    have h1:=ih r hr
    split
    ·simp
    ·split
     ·rw[hskip,List.length_cons];omega
     ·split
      ·simp
      ·split
       ·rename_i h3 _ _ _
        have hl:((165 :: r:List UInt8).drop (((165 :: r:List UInt8).getD 2 0).toNat+5)).length≤n:=by rw[List.length_drop];simp only[List.length_cons]at h3 ⊢;omega
        have h2:=ih _ hl
        unfold consS
        dsimp only
        rw[List.length_drop]at h2
        simp only[List.length_cons]at h3 h2 ⊢
        omega
       ·rw[hskip,List.length_cons];omega
   ·rw[scan_other hb,hskip,List.length_cons]
    have :=ih r hr
    omega
theorem XIn.heard{tk gap m:Int}{g:Bool}{N:Nat}{x:CX}(h:XIn tk gap g m N x)(b:ByteArray)(hN:x.2.1.left.size+b.size≤N):XIn tk gap g m N (hearO HR x (b,())):=by
 unfold hearO hearS
 refine XIn.hears _ ?_
 unfold hearHead
 have h0:∀l:ByteArray,l.size≤N→XIn tk gap g m N (x.1,{x.2.1 with left:=l},x.2.2):=fun l hl=>{h with lsz:=hl}
 have hs:(bsL (scanV (x.2.1.left++b).data.toList).2.1).size≤N:=by
  rw[size_bsL]
  have h1:=scan_left _ (x.2.1.left++b).data.toList (Nat.le_refl _)
  have h2:(x.2.1.left++b).data.toList.length=(x.2.1.left++b).size:=rfl
  have h3:(x.2.1.left++b).size=x.2.1.left.size+b.size:=ByteArray.size_append
  omega
 cases decide ((_:Int)>0)
 ·exact h0 _ hs
 ·exact (h0 _ hs).rejd
end Go.Ab
namespace Go.Ab
open Go Go.Proofs
structure CIn(c:Crf):Prop where
 pl:PlIn c.plan
 rej:0≤c.rej∧c.rej≤65535
 ack:0≤c.ack∧c.ack≤255
 err:0≤c.err∧c.err≤3
 dt:i64? c.drift.tick=true
 tk:0≤c.tk∧c.tk≤157766400000
section
variable {tk gap m:Int} {g:Bool} {N:Nat}
theorem XIn.cond{c:Bool}{y z:CX}(hy:XIn tk gap g m N y)(hz:XIn tk gap g m N z):XIn tk gap g m N (bif c then y else z):=by
 cases c
 ·exact hz
 ·exact hy
theorem CIn.start{c:Crf}(h:CIn c)(tk:Int){N:Nat}(hN:c.left.size≤N):XIn tk (gapV c tk) (gapV c tk==0) c.plan.mode N (stp1 c tk,c,rds0):=⟨hN,rfl,rfl,rfl,rfl,h.pl,h.rej,h.ack,h.err,h.dt,fun h=>by cases h⟩
theorem XIn.driftOk{x:CX}(h:XIn tk gap g m N x):driftOk ST x=true:=by
 unfold Go.Ab.driftOk
 cases hp:x.2.2.p3 with
 | false=>rfl
 | true =>
  rw[cond_true]
  show (i64? x.2.1.drift.tick&&i64? x.2.2.r3.tk)=true
  rw[h.dt]
  obtain ⟨h0,h1⟩:=tick_in (h.r3 hp)
  exact decide_eq_true (by omega)
theorem stepV_tick(d:Dr)(u:V3)(t:Int)(ht:i64? t=true):i64? (stepV false (d,u,t,())).1.tick=true:=by
 have hc:∀(c:Bool) (y z:Dr×Bool),i64? y.1.tick=true→i64? z.1.tick=true→i64? (bif c then y else z).1.tick=true:=by
  intro c y z hy hz
  cases c
  ·exact hz
  ·exact hy
 unfold stepV
 exact hc _ _ _ (hc _ _ _ rfl ht) (hc _ _ _ rfl ht)
theorem XIn.drifted{x:CX}(h:XIn tk gap g m N x):XIn tk gap g m N (cstD ST x):=by
 unfold cstD
 cases hp:x.2.2.p3 with
 | false=>exact h
 | true =>
  rw[cond_true]
  refine {h with dt:=stepV_tick _ _ _ ?_}
  obtain ⟨h0,h1⟩:=tick_in (h.r3 hp)
  exact decide_eq_true (by omega)
theorem XIn.looked{x:CX}(h:XIn tk gap g m N x):XIn tk gap g m N (lookX x):=by
 have hP:∀{y:CX} (fl:Bool),XIn tk gap g m N y→XIn tk gap g m N (lkPX LK y fl):=by
  intro y fl hy
  have hB:∀a b p,XIn tk gap g m N (lkBX y a b p):=fun a b p=>{hy with}
  unfold lkPX
  exact .cond (.cond (.cond (hB ..) (hB ..)) (hB ..)) (.cond (hB ..) (hB ..))
 have hS:∀{y:CX} (a b c:V3×Bool),XIn tk gap g m N y→XIn tk gap g m N (lkSX LK y a b c):=by
  intro y a b c hy
  unfold lkSX
  exact .cond {hy with} (hP _ {hy with})
 have hG:∀{y:CX},XIn tk gap g m N y→XIn tk gap g m N (lkGX LK y):=by
  intro y hy
  unfold lkGX
  exact .cond hy (hS _ _ _ hy)
 unfold lookX lookO
 exact .cond (hG {h with}) (hG {h with})
theorem XIn.filtered{x:CX}(h:XIn tk gap g m N x):XIn tk gap g m N (filterX x):=by
 have hE:∀{y:CX} (a:Gs) (p f:Bool),XIn tk gap g m N y→XIn tk gap g m N (filtEX spreadP y a p f):=by
  intro y a p f hy
  unfold filtEX
  exact .cond {hy with} {hy with}
 have hM:∀{y:CX} (a:Gs×Bool),XIn tk gap g m N y→XIn tk gap g m N (filtMX meetP spreadP y a):=by
  intro y a hy
  unfold filtMX
  exact .cond (.cond (hE _ _ _ hy) (hE _ _ _ hy)) (hE _ _ _ hy)
 unfold filterX filtX
 exact .cond (.cond (hM _ h) (hM _ h)) (hM _ h)
theorem XIn.fined{x:CX}(h:XIn tk gap g m N x):XIn tk gap g m N (cstF ST x):=by
 unfold cstF
 exact .cond (.cond h.filtered h) h
theorem XIn.ahead{x:CX}(h:XIn tk gap g m N x):XIn tk gap g m N (cstF ST (ST.lk (cstD ST x))):=h.drifted.looked.fined
structure PlOut(x y:CX):Prop where
 s:y.1=x.1
 pl:PlIn y.2.1.plan
 rej:y.2.1.rej=x.2.1.rej
 ack:y.2.1.ack=x.2.1.ack
 err:y.2.1.err=x.2.1.err
 drift:y.2.1.drift=x.2.1.drift
 left:y.2.1.left=x.2.1.left
theorem plan_out{x:CX}(h:XIn tk gap g m N x):PlOut x (planX x):=by
 have hn:=next_in h.pl x.1.seen
 have hf:=(or_range hn.faults).2.2.1
 have a:∀gs,PlOut x (x.1,{x.2.1 with plan:=nextV x.2.1.plan x.1.seen,guess:=gs},x.2.2):=fun gs=>⟨rfl,hn,rfl,rfl,rfl,rfl,rfl⟩
 have hc:∀{c:Bool} {y z:CX},PlOut x y→PlOut x z→PlOut x (bif c then y else z):=by
  intro c y z hy hz
  cases c
  ·exact hz
  ·exact hy
 unfold planX planO
 refine hc (hc (hc ⟨rfl,to_in (m:=1) (by omega) hf,rfl,rfl,rfl,rfl,rfl⟩ (hc (a _) (a _))) (hc (a _) (a x.2.1.guess))) (hc (a _) (a x.2.1.guess))
theorem end_in{x:CX}(h:XIn tk gap g m N x)(ht:isTick tk=true):CIn (endX ST tk x).2.1:=by
 have h1:=h.ahead
 have h2:=plan_out h1
 obtain ⟨t0,t1⟩:=tick_in ht
 unfold endX
 refine ⟨h2.pl,?_,?_,?_,?_,⟨t0,t1⟩⟩
 ·show 0≤(planX _).2.1.rej∧(planX _).2.1.rej≤65535
  rw[h2.rej]
  exact h1.rej
 ·show 0≤(planX _).2.1.ack∧(planX _).2.1.ack≤255
  rw[h2.ack]
  exact h1.ack
 ·show 0≤(planX _).2.1.err∧(planX _).2.1.err≤3
  rw[h2.err]
  exact h1.err
 ·show i64? (planX _).2.1.drift.tick=true
  rw[h2.drift]
  exact h1.dt
theorem end_left{x:CX}(h:XIn tk gap g m N x):(endX ST tk x).2.1.left.size≤N:=by
 have h1:=h.ahead
 have h2:=plan_out h1
 unfold endX
 show (planX _).2.1.left.size≤N
 rw[h2.left]
 exact h1.lsz
end
def tellX(x:CX):Tl:=tellT x.1 x.2.1 (countsV (x.2.1.guess.q,(bif x.2.1.plan.mode==0 then (dipole opsF false (x.2.1.drift,())).1 else V3.zero),()))
theorem cnt_fit(p:V4×V3×Unit):fit16 (countsV p).a.w=true∧fit16 (countsV p).a.x=true∧fit16 (countsV p).a.y=true∧fit16 (countsV p).a.z=true∧fit16 (countsV p).b.x=true∧fit16 (countsV p).b.y=true∧fit16 (countsV p).b.z=true:=by
 have z:fit16 0=true:=by kernel_rfl
 have e:countsV p=bif (cnt0 (op3 fpart) p.1 p.2.1).2 then ⟨V4.zero,V3.zero⟩ else bif !tlRight (cntTl (cnt0 (op3 fpart) p.1 p.2.1).1) then ⟨V4.zero,V3.zero⟩ else (cnt0 (op3 fpart) p.1 p.2.1).1:=rfl
 rw[e]
 cases (cnt0 (op3 fpart) p.1 p.2.1).2 with
 | true=>exact ⟨z,z,z,z,z,z,z⟩
 | false =>
  rw[cond_false]
  cases hr:tlRight (cntTl (cnt0 (op3 fpart) p.1 p.2.1).1) with
  | false=>exact ⟨z,z,z,z,z,z,z⟩
  | true =>
   unfold tlRight tlOk at hr
   simp only[Bool.and_eq_true]at hr
   obtain ⟨h1,h2,h3,h4,h5,h6,h7,_⟩:=hr
   exact ⟨h1,h2,h3,h4,h5,h6,h7⟩
theorem u8_fits{x:Int}(h:0≤x∧x≤255):(x==IntKind.i64.wrap (IntKind.u8.wrap x))=true:=by
 have:IntKind.i64.wrap (IntKind.u8.wrap x)=x:=by rw[wrap8Z,wrapM];omega
 rw[this]
 exact beq_self_eq_true x
theorem u16_fits{x:Int}(h:0≤x∧x≤65535):(x==IntKind.i64.wrap (IntKind.u16.wrap x))=true:=by
 have e:IntKind.u16.wrap x=x % 65536:=by simp[IntKind.wrap,IntKind.bits,IntKind.signed]
 have:IntKind.i64.wrap (IntKind.u16.wrap x)=x:=by rw[e,wrapM];omega
 rw[this]
 exact beq_self_eq_true x
theorem tell_right{x:CX}(h:CIn x.2.1)(ht:isTick x.1.tk=true):tlRight (tellX x)=true:=by
 obtain ⟨f1,f2,f3,f4,f5,f6,f7⟩:=cnt_fit (x.2.1.guess.q,(bif x.2.1.plan.mode==0 then (dipole opsF false (x.2.1.drift,())).1 else V3.zero),())
 unfold tlRight tlOk
 simp only[Bool.and_eq_true]
 exact ⟨f1,f2,f3,f4,f5,f6,f7,u8_fits h.ack,u8_fits ⟨h.err.1,by have :=h.err.2;show x.2.1.err≤255;omega⟩,ht,decide_eq_true h.pl.mode.1,decide_eq_true h.pl.mode.2,decide_eq_true h.pl.faults.1,decide_eq_true h.pl.faults.2,u16_fits h.rej⟩
theorem told_is{x:CX}(h:CIn x.2.1)(ht:isTick x.1.tk=true):cstT ST x=bsL (wrapL 32 (wrStr (tellX x)).data.toList):=by
 have hr:=tell_right h ht
 have e:cstT ST x=(wrapV (writeV (tellX x,())).a).a:=by
  unfold cstT tellX
  cases x.2.1.plan.mode==0<;>rfl
 have hw:writeV (tellX x,())=⟨⟨32,wrStr (tellX x)⟩,true⟩:=by unfold writeV;dsimp only;rw[hr];rfl
 rw[e,hw]
 unfold wrapV
 dsimp only
 rw[wrStr_size]
 rfl
theorem open_wrapC{k:Nat}{d:List UInt8}(hk:k≤255)(hd:d.length≤64):openV (bsL (wrapL k d))=⟨⟨k,bsL d⟩,true⟩:=by
 have hl:(bsL (wrapL k d)).data.toList=165 :: UInt8.ofNat k :: UInt8.ofNat d.length :: (d++[UInt8.ofNat (crcF (bodyL k d) 65535 / 256),UInt8.ofNat (crcF (bodyL k d) 65535 % 256)]):=by rw[data_bsL];rfl
 rw[openV_of hl,if_pos ⟨hd,rfl,rfl,rfl,rfl⟩]
 have :=ofNat8 (x:=k) (by omega)
 have e:((UInt8.ofNat k).toNat:Int)=(k:Int):=this
 rw[e]
def toldV(p:ByteArray×Unit):Two Tl Bool:=toldO (fun q=>openV q.1) (fun q=>readTl q.1.data) p.1
def toldPre(p:ByteArray×Unit):Bool:=szOk p&&readPre ((openV p.1).a,())
theorem okTold:SumOk Tryz.prog 44 (S0c toldPre toldV):=S0c_ok (E:={gam:=[(29,S0w szOk fun (q:ByteArray×Unit)=>openV q.1),(30,S0c readPre fun (q:Fr×Unit)=>readTl q.1.data)]}) (.cons okRefOpen (.cons okReadT .nil)) 20 fun a h=>by
 obtain ⟨s,_⟩:=a
 unfold toldPre at h
 simp only[Bool.and_eq_true]at h
 refine (told44 (fun q=>openV q.1) szOk (fun q=>readTl q.1.data) readPre s).trans ?_
 dsimp only
 rw[h.1,h.2,cond_true,cond_true]
 unfold toldV toldO
 dsimp only
 generalize readTl (openV s).a.data=r
 cases (openV s).b
 ·rfl
 ·rfl
theorem told_back{x:CX}(h:CIn x.2.1)(ht:isTick x.1.tk=true):toldPre (cstT ST x,())=true∧toldV (cstT ST x,())=⟨tellX x,true⟩:=by
 have hd:(wrStr (tellX x)).data.toList.length=26:=wrStr_size (tellX x)
 have ho:openV (cstT ST x)=⟨⟨32,wrStr (tellX x)⟩,true⟩:=by
  have e:=open_wrapC (k:=32) (d:=(wrStr (tellX x)).data.toList) (by omega) (by omega)
  rw[bsL_data]at e
  rw[told_is h ht]
  exact e
 generalize hw:wrStr (tellX x)=ws at *
 have hr:=read_wr (tell_right h ht)
 rw[hw]at hr
 have hsz:ws.size=26:=hd
 constructor
 ·unfold toldPre
  rw[ho]
  have h1:szOk (cstT ST x,())=true:=by
   refine decide_eq_true ?_
   show (cstT ST x).size≤_
   rw[told_is h ht,size_bsL,hw]
   unfold wrapL bodyL
   simp[hd]
  rw[h1]
  unfold readPre
  dsimp only
  rw[hsz]
  rfl
 ·unfold toldV toldO
  dsimp only
  rw[ho]
  dsimp only
  rw[hr]
  rfl
end Go.Ab
namespace Go.Ab
open Go Go.Proofs
theorem aw_pre:craftPre (crf0,5,⟨#[]⟩,())=true:=by kernel_rfl
theorem aw_on:(craftV (crf0,5,⟨#[]⟩,())).a.on=true:=by kernel_rfl
theorem aw_tk:(craftV (crf0,5,⟨#[]⟩,())).a.tk=5:=by kernel_rfl
theorem aw_size:(craftV (crf0,5,⟨#[]⟩,())).b.size=31:=by kernel_rfl
theorem awake23(pre:StpA→Bool)(g:StpA→Two Crf ByteArray):fnSum Tryz.prog {gam:=[(25,S0w pre g)]} [] 20 23 [] [] =
  bif pre (crf0,5,⟨#[]⟩,()) then bif (g (crf0,5,⟨#[]⟩,())).a.on then bif (g (crf0,5,⟨#[]⟩,())).a.tk==5 then some (.val (.bool (((g (crf0,5,⟨#[]⟩,())).b.size:Int)==31)),[]) else some (.val (.bool false),[]) else some (.val (.bool false),[]) else none:=by kernel_rfl
theorem okAwakeC:SumOk Tryz.prog 23 (S0 fun (_:Unit)=>true):=S0_ok (E:={gam:=[(25,S0w craftPre craftV)]}) (.cons okCraft .nil) 20 fun a=>by
 refine (awake23 craftPre craftV).trans ?_
 rw[aw_pre,aw_on,aw_tk,aw_size]
 rfl
end Go.Ab
namespace Go.Ab
open Go Go.Proofs
theorem lights13(pre:StpA→Bool)(g:StpA→Two Crf ByteArray)(tp:ByteArray×Unit→Bool)(td:ByteArray×Unit→Two Tl Bool):fnSum Tryz.prog {gam:=[(25,S0w pre g),(44,S0c tp td)]} [] 20 13 [] [] =
  bif pre (crf0,5,⟨#[]⟩,()) then bif tp ((g (crf0,5,⟨#[]⟩,())).b,()) then bif (g (crf0,5,⟨#[]⟩,())).a.on then bif (td ((g (crf0,5,⟨#[]⟩,())).b,())).b then bif (td ((g (crf0,5,⟨#[]⟩,())).b,())).a.mode==0 then
   some (.val (.bool ((td ((g (crf0,5,⟨#[]⟩,())).b,())).a.tk==5)),[]) else some (.val (.bool false),[]) else some (.val (.bool false),[]) else some (.val (.bool false),[]) else none else none:=by kernel_rfl
theorem crf0_in:CIn crf0:=⟨⟨by decide,by decide,by decide,by decide,by decide,by decide⟩,by decide,by decide,by decide,by kernel_rfl,by decide⟩
theorem aw_mode:(craftV (crf0,5,⟨#[]⟩,())).a.plan.mode=0:=by kernel_rfl
theorem aw_x:craftV (crf0,5,⟨#[]⟩,())=⟨(endX ST 5 (cstH ST crf0 5 ⟨#[]⟩)).2.1,cstT ST (endX ST 5 (cstH ST crf0 5 ⟨#[]⟩))⟩:=by
 have hl:lateX crf0 ST.rt 5=false:=by kernel_rfl
 unfold craftV stepO
 dsimp only
 rw[hl]
 rfl
theorem step_tk{tk gap m:Int}{g:Bool}{N:Nat}{x:CX}(h:XIn tk gap g m N x)(t:Int):(endX ST t x).1.tk=tk:=by
 have h1:=h.ahead
 have h2:=plan_out h1
 unfold endX
 show (planX _).1.tk=tk
 rw[h2.s]
 exact h1.stk
theorem okLights:SumOk Tryz.prog 13 (S0 fun (_:Unit)=>true):=S0_ok (E:={gam:=[(25,S0w craftPre craftV),(44,S0c toldPre toldV)]}) (.cons okCraft (.cons okTold .nil)) 20 fun a=>by
 have hx:=(crf0_in.start 5 (N:=0) (Nat.le_refl _)).heard ⟨#[]⟩ (Nat.le_refl _)
 have ht:isTick 5=true:=by kernel_rfl
 have hc:=end_in hx ht
 have hk:(endX ST 5 (cstH ST crf0 5 ⟨#[]⟩)).1.tk=5:=step_tk hx 5
 obtain ⟨b1,b2⟩:=told_back (x:=endX ST 5 (cstH ST crf0 5 ⟨#[]⟩)) hc (by rw[hk];exact ht)
 refine (lights13 craftPre craftV toldPre toldV).trans ?_
 have hon:=aw_on
 have hm:=aw_mode
 rw[aw_pre]
 rw[aw_x]at hon hm ⊢
 dsimp only at hon hm ⊢
 rw[b1,b2,hon]
 have e1:(tellX (endX ST 5 (cstH ST crf0 5 ⟨#[]⟩))).mode=0:=hm
 have e2:(tellX (endX ST 5 (cstH ST crf0 5 ⟨#[]⟩))).tk=5:=hk
 dsimp only
 rw[e1,e2]
 rfl
end Go.Ab
namespace Go.Ab
open Go Go.Proofs
abbrev Rec:=Int×ByteArray
structure RecAt(w:World)(a:Option Addr)(n:Nat)(rs:List Rec):Prop where
 len:rs.length=n
 small:n≤140737488355328
 lies:∀i (hi:i<rs.length),∃ad,a=some ad∧ad.block<w.heap.size∧w.cell? (ad.add (i*2+0))=some (.int .i64 rs[i].1)∧w.cell? (ad.add (i*2+1))=some (.string rs[i].2)
theorem add_block(ad:Addr)(k:Nat):(ad.add k).block=ad.block:=by unfold Addr.add;split<;>rfl
theorem RecAt.later{w w':World}{a:Option Addr}{n:Nat}{rs:List Rec}(h:RecAt w a n rs)(hg:w.heap.size≤w'.heap.size)(hk:∀k,k<w.heap.size→w'.heap[k]?=w.heap[k]?):RecAt w' a n rs:=by
 refine ⟨h.len,h.small,fun i hi=>?_⟩
 obtain ⟨ad,h1,h2,h3,h4⟩:=h.lies i hi
 refine ⟨ad,h1,by omega,?_,?_⟩
 ·simp only[World.cell?,add_block,hk _ h2]at h3 ⊢
  exact h3
 ·simp only[World.cell?,add_block,hk _ h2]at h4 ⊢
  exact h4
theorem v22s:Tryz.prog.underlying 22=some (.slice 70):=by kernel_rfl
theorem i70:(Tryz.prog.info? 70).map (·.size)=some 2:=by kernel_rfl
theorem u70:(Tryz.prog.underlying 70).map isAggD=some true:=by kernel_rfl
theorem info70:∃ti,Tryz.prog.info? 70=some ti∧ti.size=2:=info_of i70
theorem und70:∃td,Tryz.prog.underlying 70=some td∧isAggD td=true:=by
 have h:=u70
 cases hu:Tryz.prog.underlying 70 with
 | none=>rw[hu]at h;cases h
 | some d=>rw[hu]at h;exact ⟨d,rfl,by simpa using h⟩
theorem run_rec{w:World}{ad:Addr}{k:Int}{d:ByteArray}(h0:w.cell? (ad.add 0)=some (.int .i64 k))(h1:w.cell? (ad.add 1)=some (.string d)):(loadVar 70 ad).run Tryz.prog w=.ok (.agg (List.toArray [.int .i64 k,.string d])) w:=by
 obtain ⟨ti,hti,hs⟩:=info70
 obtain ⟨td,htd,hag⟩:=und70
 unfold loadVar
 rw[Sem.run_bind,run_isAgg htd w,hag]
 simp only[Result.andThen_ok,if_true,Sem.run_bind,run_sizeOf hti w]
 have :=run_loadFrom (P:=Tryz.prog) (w:=w) (a:=ad) ti.size 0 [.int .i64 k,.string d] #[] (by rw[hs];rfl) fun j c hj=>by
  match j,hj with
  | 0,hj=>cases hj;exact h0
  | 1,hj=>cases hj;exact h1
  | j+2,hj=>simp at hj
 unfold loadCells
 rw[this]
 simp
noncomputable def lgR:Nat→Code
 | 0=>Tryz.f14.body.getD .skip
 | k+1=>seqR (lgR k)
noncomputable def lgL(k:Nat):Code:=seqL (lgR k)
noncomputable def lgB:Code:=inB (inB (seqR (lgL 2)))
noncomputable def lgB1:Code:=inB (seqL (seqR (seqR lgB)))
noncomputable def lgO4:Array Oper:=regO (seqL lgB1)
theorem lg_is:Tryz.f14.body=some (.seq (lgL 0) (.seq (lgL 1) (.seq (.seq (seqL (lgL 2)) (.block 0 (.loop (.seq (seqL lgB) (.seq (seqL (seqR lgB)) (.seq (.block 1 (.seq (.region 4 lgO4 false) (seqR lgB1))) (seqR (seqR (seqR lgB))))))))) (lgR 3)))):=by kernel_rfl
theorem f14_is:Tryz.prog.funcs[14]?=some Tryz.f14:=by kernel_rfl
theorem f14_N:Tryz.f14.ntmps=35:=by kernel_rfl
theorem lg4_0:sigOf lgO4 0=some (.indexAddr 22 (.tmp 7) (.tmp 9),some 11,true):=by kernel_rfl
theorem lg4_1:sigOf lgO4 1=some (.load 70 (.tmp 11),some 12,true):=by kernel_rfl
theorem lg4_n:List.range lgO4.size=0 :: 1 :: ((List.range (lgO4.toList.drop 2).length).map (2+·)++[]):=by kernel_rfl
def plRow(bg:Int)(a:Option Addr)(n c:Nat):Con:=.row 24 [.val (.int .i64 bg),.val (.slice a n c)]
def lN1:Nat:=4096+1*2^180
def lN2:Nat:=4096+2*2^180
def lgS(bg:Int)(a:Option Addr)(n c:Nat)(tm:List (Nat×AV)):St:=gSt 35 ([(1,.ptr 4096 0),(2,.val (.bool false))]++tm) [(4096,plRow bg a n c)] lN1
def lgI(bg:Int)(a:Option Addr)(n c:Nat)(s i:Int)(tm:List (Nat×AV)):St:=lgS bg a n c ([(3,.val (.int .i64 s)),(7,.val (.slice a n c)),(8,.val (.int .i64 n)),(9,.val (.int .i64 i))]++tm)
def lgF(bg:Int)(a:Option Addr)(n c:Nat)(s i k:Int)(d:ByteArray):St:=gSt 35 [(1,.ptr 4096 0),(2,.val (.bool false)),(3,.val (.int .i64 s)),(7,.val (.slice a n c)),(8,.val (.int .i64 n)),(9,.val (.int .i64 i)),(5,.ptr lN1 0)] [(4096,plRow bg a n c),(lN1,.row 70 [.val (.int .i64 k),.val (.string d)])] lN2
def lgV(b:Bool)(lo:Nat):St:=gSt 35 [(2,.val (.bool b))] [] lo
section
variable (bg s i k:Int) (a:Option Addr) (ad:Addr) (n c:Nat) (t:Bool) (d:ByteArray)
noncomputable abbrev lgRun(c:Code)(s:St)(ks ts:List Nat):Option (Ex×St):=gRun Tryz.prog {gam:=[]} 35 c s ks ts
theorem lg_q0:lgRun (lgL 0) (startS 35 [.val (.agg #[.int .i64 bg,.slice a n c])] []) [4096] [1,2]=some (.normal,lgS bg a n c []):=by kernel_rfl
theorem lg_q1:lgRun (lgL 1) (lgS bg a n c []) [4096] [1,2,3]=some (.normal,lgS bg a n c [(3,.val (.int .i64 0))]):=by kernel_rfl
theorem lg_q2:lgRun (seqL (lgL 2)) (lgS bg a n c [(3,.val (.int .i64 0))]) [4096] [1,2,3,7,8,9]=some (.normal,lgI bg a n c 0 0 []):=by kernel_rfl
theorem lg_q3:lgRun (seqL lgB) (lgI bg a n c s i []) [4096] [1,2,3,7,8,9,10]=some (.normal,lgI bg a n c s i [(10,.val (.bool (decide (i<n))))]):=by kernel_rfl
theorem lg_qc:lgRun (seqL (seqR lgB)) (lgI bg a n c s i [(10,.val (.bool t))]) [4096] [1,2,3,7,8,9]=bif t then some (.normal,lgI bg a n c s i []) else some (.exit 0,lgI bg a n c s i []):=by kernel_rfl
theorem lg_q4:opsRun Tryz.prog (callN Tryz.prog {gam:=[]} 4 (Bool×St)) (isSum []) 35 lgO4 (lgO4.toList.drop 2) {lgI bg a n c s i []with tmps:=((lgI bg a n c s i []).tmps.set 11 (.val (.pointer (some ad)))).set 12 (.val (.agg (List.toArray [.int .i64 k,.string d])))} [] (endOps [4096,lN1] (restN 35 [1,2,3,5,7,8,9]))=some (true,lgF bg a n c s i k d):=by kernel_rfl
theorem lg_q5:lgRun (seqR lgB1) (lgF bg a n c s i k d) [4096] [1,2,3,7,8,9]=bif decide (wI (s+(d.size:Int))>3000) then some (.ret,{lgI bg a n c (wI (s+(d.size:Int))) i []with lo:=lN2}) else some (.normal,{lgI bg a n c (wI (s+(d.size:Int))) i []with lo:=lN2}):=by kernel_rfl
theorem lg_q8:lgRun (seqR (seqR (seqR lgB))) (lgI bg a n c s i []) [4096] [1,2,3,7,8,9]=some (.normal,lgI bg a n c s (wI (i+1)) []):=by kernel_rfl
theorem lg_q9:lgRun (lgR 3) (lgI bg a n c s i []) [] [2]=bif decide ((n:Int)≤30) then bif decide (bg≥0) then some (.ret,lgV (decide (bg≤157766400000)) lN1) else some (.ret,lgV false lN1) else some (.ret,lgV false lN1):=by kernel_rfl
end
end Go.Ab
namespace Go.Ab
open Go Go.Proofs
def eqK:List Int→List Int→Bool
 | a :: r,b :: t=>a==b&&eqK r t
 | _,_=>true
theorem eqK_self:∀l:List Int,eqK l l=true
 | []=>rfl
 | a :: r=>by simp[eqK,eqK_self r]
def r6L(r:R6):List Int:=[r.a,r.b,r.c,r.d,r.e,r.f]
def gsK(a b:Gs):Bool:=eqK [a.q.w,a.q.x,a.q.y,a.q.z] [b.q.w,b.q.x,b.q.y,b.q.z]&&(eqK [a.bias.x,a.bias.y,a.bias.z] [b.bias.x,b.bias.y,b.bias.z] &&
 ((eqK (r6L a.p.a) (r6L b.p.a)&&(eqK (r6L a.p.b) (r6L b.p.b)&&(eqK (r6L a.p.c) (r6L b.p.c)&&(eqK (r6L a.p.d) (r6L b.p.d)&&(eqK (r6L a.p.e) (r6L b.p.e)&&(eqK (r6L a.p.f) (r6L b.p.f)&&true))))))&&true))
def plK(a b:Pl):Bool:=eqK [a.mode,a.calm,a.good,a.miss,a.lost,a.faults] [b.mode,b.calm,b.good,b.miss,b.lost,b.faults]
def orK(a b:Orb):Bool:=eqK [a.a,a.e,a.i,a.node,a.peri,a.m,a.tk] [b.a,b.e,b.i,b.node,b.peri,b.m,b.tk]
def drK(a b:Dr):Bool:=a.on==b.on&&(a.tick==b.tick&&(eqK [a.last.x,a.last.y,a.last.z] [b.last.x,b.last.y,b.last.z]&&(eqK [a.rate.x,a.rate.y,a.rate.z] [b.rate.x,b.rate.y,b.rate.z]&&true)))
def crfK(a b:Crf):Bool:=a.on==b.on&&(a.tk==b.tk&&(a.left==b.left&&(plK a.plan b.plan&&(a.placed==b.placed&&(orK a.orb b.orb&&(drK a.drift b.drift&&(gsK a.guess b.guess&&(a.ack==b.ack&&(a.err==b.err&&(a.rej==b.rej&&true))))))))))
theorem ba_self(s:ByteArray):(s==s)=true:=by
 unfold BEq.beq
 show (s.data==s.data)=true
 exact beq_self_eq_true s.data
theorem crfK_self(a:Crf):crfK a a=true:=by simp[crfK,plK,orK,drK,gsK,eqK_self,ba_self]
section
variable (aw:Bool) (pre:StpA→Bool) (g:StpA→Two Crf ByteArray) (c:Crf) (tk i:Int) (b:ByteArray) (x y:Two Crf ByteArray)
end
end Go.Ab
/- What the words at a translation's head say, of any program. -/
namespace Go.Ab
theorem make_of {P : Program} {rest : List (List Char)} (h : behindMainWord (wordsSigns P.initOrder.toList) = "cut".toList :: rest) : P.make = some .cut := by
  unfold Program.make
  rw [h]
  kernel_rfl
theorem headLifts_of {P : Program} {rest : List (List Char)} (h : behindMainWord (wordsSigns P.initOrder.toList) = "cut".toList :: rest) : P.headLifts = [] := by
  unfold Program.headLifts
  rw [h]
  kernel_rfl
theorem liftsFinal_of {P : Program} {rest : List (List Char)} (h : behindMainWord (wordsSigns P.initOrder.toList) = "cut".toList :: rest) : P.liftsFinal = false := by
  unfold Program.liftsFinal
  rw [headLifts_of h, h]
  kernel_rfl
theorem mayEnter_of {P : Program} {rest : List (List Char)} (h : behindMainWord (wordsSigns P.initOrder.toList) = "cut".toList :: rest) (h1 : P.laysLater = false) (h2 : P.bearsReflect = false) (h3 : P.doorFits [] = true) : P.mayEnter = true := by
  have hs : stripLifts liftWords ("cut".toList :: rest) = ([], "cut".toList :: rest) := by kernel_rfl
  unfold Program.mayEnter
  rw [h]
  simp only [hs, h1, h2, h3]
  simp
end Go.Ab
