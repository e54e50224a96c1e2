/- A part of the proofs: lemmas, no statement of their own; no condition. -/
import Derived.Test.YtoocjipllmkjcaaGreatFuB
import Derived.Test.YtoocjipllmkjcaaGreatGBeA
import Derived.Test.YtoocjipllmkjcaaGreatGMaA
import Derived.Lib.ConvBytes
import Derived.Test.YtoocjipllmkjcaaGreatGAbM
set_option linter.unusedSimpArgs false
namespace Go.Ab
open Go Go.Proofs
theorem ea_w0(F:EOps)(tk c s u v ra:Int)(T:Nat→Int)(z:EZ)(f:Bool):gCut Tryz.prog (eF F) 247 eaB (eaI tk c s u v T ra 1 z f) (4096+3*2^180) [0,(4096+1*2^180),(4096+2*2^180)] [0,2,6,9,10,11,12,13,14,15,16,17,18,19]=some (.normal,eaI tk c s u v T ra 2 (eaRound F.o F.nm u v tk T ra 0 (z,f)).1 (eaRound F.o F.nm u v tk T ra 0 (z,f)).2):=by kernel_rfl
end Go.Ab
namespace Go.Ab
open Go Go.Proofs
theorem ea_w1(F:EOps)(tk c s u v ra:Int)(T:Nat→Int)(z:EZ)(f:Bool):gCut Tryz.prog (eF F) 247 eaB (eaI tk c s u v T ra 2 z f) (4096+3*2^180) [0,(4096+1*2^180),(4096+2*2^180)] [0,2,6,9,10,11,12,13,14,15,16,17,18,19]=some (.normal,eaI tk c s u v T ra 3 (eaRound F.o F.nm u v tk T ra 1 (z,f)).1 (eaRound F.o F.nm u v tk T ra 1 (z,f)).2):=by kernel_rfl
end Go.Ab
namespace Go.Ab
open Go Go.Proofs
theorem ea_w2(F:EOps)(tk c s u v ra:Int)(T:Nat→Int)(z:EZ)(f:Bool):gCut Tryz.prog (eF F) 247 eaB (eaI tk c s u v T ra 3 z f) (4096+3*2^180) [0,(4096+1*2^180),(4096+2*2^180)] [0,2,6,9,10,11,12,13,14,15,16,17,18,19]=some (.normal,eaI tk c s u v T ra 4 (eaRound F.o F.nm u v tk T ra 2 (z,f)).1 (eaRound F.o F.nm u v tk T ra 2 (z,f)).2):=by kernel_rfl
end Go.Ab
namespace Go.Ab
open Go Go.Proofs
theorem ea_w3(F:EOps)(tk c s u v ra:Int)(T:Nat→Int)(z:EZ)(f:Bool):gCut Tryz.prog (eF F) 247 eaB (eaI tk c s u v T ra 4 z f) (4096+3*2^180) [0,(4096+1*2^180),(4096+2*2^180)] [0,2,6,9,10,11,12,13,14,15,16,17,18,19]=some (.normal,eaI tk c s u v T ra 5 (eaRound F.o F.nm u v tk T ra 3 (z,f)).1 (eaRound F.o F.nm u v tk T ra 3 (z,f)).2):=by kernel_rfl
end Go.Ab
namespace Go.Ab
open Go Go.Proofs
theorem ea_w4(F:EOps)(tk c s u v ra:Int)(T:Nat→Int)(z:EZ)(f:Bool):gCut Tryz.prog (eF F) 247 eaB (eaI tk c s u v T ra 5 z f) (4096+3*2^180) [0,(4096+1*2^180),(4096+2*2^180)] [0,2,6,9,10,11,12,13,14,15,16,17,18,19]=some (.normal,eaI tk c s u v T ra 6 (eaRound F.o F.nm u v tk T ra 4 (z,f)).1 (eaRound F.o F.nm u v tk T ra 4 (z,f)).2):=by kernel_rfl
end Go.Ab
namespace Go.Ab
open Go Go.Proofs
theorem ea_w5(F:EOps)(tk c s u v ra:Int)(T:Nat→Int)(z:EZ)(f:Bool):gCut Tryz.prog (eF F) 247 eaB (eaI tk c s u v T ra 6 z f) (4096+3*2^180) [0,(4096+1*2^180),(4096+2*2^180)] [0,2,6,9,10,11,12,13,14,15,16,17,18,19]=some (.normal,eaI tk c s u v T ra 7 (eaRound F.o F.nm u v tk T ra 5 (z,f)).1 (eaRound F.o F.nm u v tk T ra 5 (z,f)).2):=by kernel_rfl
end Go.Ab
namespace Go.Ab
open Go Go.Proofs
theorem eaC_is:Tryz.f221.body=some (.seq (eaL 0) (.seq (eaL 1) (.seq (eaL 2) (.seq (eaL 3) (.seq (eaL 4) (.seq (eaL 5) (.seq (eaL 6) (.seq (eaL 7) (.seq (eaL 8) (.seq (eaL 9) (.seq (eaL 10) (.seq (.seq (seqL (eaL 11)) (.block 0 (.loop eaB))) (eaR 12))))))))))))):=by kernel_rfl
theorem eaN_is:Tryz.f221.ntmps=247:=by kernel_rfl
theorem f221_is:Tryz.prog.funcs[221]?=some Tryz.f221:=by kernel_rfl
def eaPre(F:EOps)(tk r:Int)(f:Bool):Bool:=bif !F.rt (tk,()) then true else bif decide (r<6597069766656) then true else bif decide (r>10995116277760) then true else f
structure UV where
 u:Int
 v:Int
def eaUV(o:Ops)(p:V3)(w:Int)(f:Bool):UV×Bool:=bif decide (w≥1048576) then (⟨(o.div f p.x w).1,(o.div (o.div f p.x w).2 p.y w).1⟩,(o.div (o.div f p.x w).2 p.y w).2) else (⟨1099511627776,0⟩,f)
def eaMid(F:EOps)(tk r c s:Int)(uv:UV×Bool):V3×Bool :=
 let T:=F.te uv.2 (c,s,())
 let ra:=F.o.div T.2 7005208482886 r
 let t:=F.o.mul ra.2 ra.1 ra.1
 let z:=iterF (eaRound F.o F.nm uv.1.u uv.1.v tk T.1 ra.1) 0 6 (⟨t.1,0,0,0,0,0⟩,t.2)
 let e:=eaEnd F.o c s uv.1.u uv.1.v z
 (bif e.2 then V3.zero else e.1,e.2)
def eaGo(F:EOps)(p:V3)(tk r:Int):V3×Bool :=
 let w:=eaW F p false
 let c:=eaCo F p r w
 let s:=eaSi F r w c
 eaMid F tk r c.1 s.1 (eaUV F.o p w.1 s.2)
def earthO(F:EOps)(b:Bool)(a:V3×Int×Unit):V3×Bool :=
 let r:=F.vn b (a.1,())
 bif eaPre F a.2.1 r.1 r.2 then (V3.zero,true) else eaGo F a.1 a.2.1 r.1
section
variable {F:EOps} (hG:GamOk Tryz.prog (eF F).gam)
include hG
theorem ea_r0(tk c s u v ra:Int)(T:Nat→Int)(z:EZ×Bool):RunsTo Tryz.prog 247 eaB (eaI tk c s u v T ra 1 z.1 z.2) .normal (eaI tk c s u v T ra 2 (eaRound F.o F.nm u v tk T ra 0 z).1 (eaRound F.o F.nm u v tk T ra 0 z).2):=gCut_runs hG (ea_w0 F tk c s u v ra T z.1 z.2) rfl (eaI_k2 ..) rfl
theorem ea_r1(tk c s u v ra:Int)(T:Nat→Int)(z:EZ×Bool):RunsTo Tryz.prog 247 eaB (eaI tk c s u v T ra 2 z.1 z.2) .normal (eaI tk c s u v T ra 3 (eaRound F.o F.nm u v tk T ra 1 z).1 (eaRound F.o F.nm u v tk T ra 1 z).2):=gCut_runs hG (ea_w1 F tk c s u v ra T z.1 z.2) rfl (eaI_k3 ..) rfl
theorem ea_r2(tk c s u v ra:Int)(T:Nat→Int)(z:EZ×Bool):RunsTo Tryz.prog 247 eaB (eaI tk c s u v T ra 3 z.1 z.2) .normal (eaI tk c s u v T ra 4 (eaRound F.o F.nm u v tk T ra 2 z).1 (eaRound F.o F.nm u v tk T ra 2 z).2):=gCut_runs hG (ea_w2 F tk c s u v ra T z.1 z.2) rfl (eaI_k4 ..) rfl
theorem ea_r3(tk c s u v ra:Int)(T:Nat→Int)(z:EZ×Bool):RunsTo Tryz.prog 247 eaB (eaI tk c s u v T ra 4 z.1 z.2) .normal (eaI tk c s u v T ra 5 (eaRound F.o F.nm u v tk T ra 3 z).1 (eaRound F.o F.nm u v tk T ra 3 z).2):=gCut_runs hG (ea_w3 F tk c s u v ra T z.1 z.2) rfl (eaI_k5 ..) rfl
theorem ea_r4(tk c s u v ra:Int)(T:Nat→Int)(z:EZ×Bool):RunsTo Tryz.prog 247 eaB (eaI tk c s u v T ra 5 z.1 z.2) .normal (eaI tk c s u v T ra 6 (eaRound F.o F.nm u v tk T ra 4 z).1 (eaRound F.o F.nm u v tk T ra 4 z).2):=gCut_runs hG (ea_w4 F tk c s u v ra T z.1 z.2) rfl (eaI_k6 ..) rfl
theorem ea_r5(tk c s u v ra:Int)(T:Nat→Int)(z:EZ×Bool):RunsTo Tryz.prog 247 eaB (eaI tk c s u v T ra 6 z.1 z.2) .normal (eaI tk c s u v T ra 7 (eaRound F.o F.nm u v tk T ra 5 z).1 (eaRound F.o F.nm u v tk T ra 5 z).2):=gCut_runs hG (ea_w5 F tk c s u v ra T z.1 z.2) rfl (eaI_k7 ..) rfl
theorem ea_x(tk c s u v ra:Int)(T:Nat→Int)(z:EZ×Bool):RunsTo Tryz.prog 247 eaB (eaI tk c s u v T ra 7 z.1 z.2) (.exit 0) (eaI tk c s u v T ra 7 z.1 z.2):=gCut_runs hG (ea_qX F tk c s u v ra T z.1 z.2) rfl (eaI_k7 ..) rfl
theorem ea_loop(tk c s u v ra:Int)(T:Nat→Int)(z:EZ)(f:Bool):RunsTo Tryz.prog 247 (.block 0 (.loop eaB)) (eaI tk c s u v T ra 1 z f) .normal (eaI tk c s u v T ra 7 (iterF (eaRound F.o F.nm u v tk T ra) 0 6 (z,f)).1 (iterF (eaRound F.o F.nm u v tk T ra) 0 6 (z,f)).2) :=
 RunsTo.rounds (P:=Tryz.prog) (N:=247) (c:=eaB) (id:=0) 6 (fun k z=>eaI tk c s u v T ra (k+1) z.1 z.2) (fun z=>eaI tk c s u v T ra 7 z.1 z.2) (eaRound F.o F.nm u v tk T ra)
  (fun k z hk=>below6 (p:=fun k=>∀z:EZ×Bool,RunsTo Tryz.prog 247 eaB (eaI tk c s u v T ra (k+1) z.1 z.2) .normal (eaI tk c s u v T ra (k+1+1) (eaRound F.o F.nm u v tk T ra k z).1 (eaRound F.o F.nm u v tk T ra k z).2)) (ea_r0 hG tk c s u v ra T) (ea_r1 hG tk c s u v ra T) (ea_r2 hG tk c s u v ra T) (ea_r3 hG tk c s u v ra T) (ea_r4 hG tk c s u v ra T) (ea_r5 hG tk c s u v ra T) k hk z)
  (fun z=>ea_x hG tk c s u v ra T z) (z,f)
theorem ea_end(tk c s u v ra:Int)(T:Nat→Int)(z:EZ×Bool):RunsTo Tryz.prog 247 (eaR 12) (eaI tk c s u v T ra 7 z.1 z.2) .ret (eaZ (bif (eaEnd F.o c s u v z).2 then V3.zero else (eaEnd F.o c s u v z).1) (eaEnd F.o c s u v z).2 (4096+3*2^180)):=by
 have h:=ea_qE F tk c s u v ra T z.1 z.2
 refine gCut_runs hG (h.trans ?_) rfl (eaZ_k ..) rfl
 cases (eaEnd F.o c s u v z).2<;>rfl
theorem ea_mid(p:V3)(tk r w c s:Int)(f:Bool):RunsTo Tryz.prog 247 (.seq (eaL 6) (.seq (eaL 7) (.seq (eaL 8) (.seq (eaL 9) (.seq (eaL 10) (.seq (.seq (seqL (eaL 11)) (.block 0 (.loop eaB))) (eaR 12))))))) (eaS7 p tk r w c s f) .ret (eaZ (eaMid F tk r c s (eaUV F.o p w f)).1 (eaMid F tk r c s (eaUV F.o p w f)).2 (4096+3*2^180)):=by
 have h6:RunsTo Tryz.prog 247 (eaL 6) (eaS7 p tk r w c s f) .normal (eaS8 tk r c s (eaUV F.o p w f).1.u (eaUV F.o p w f).1.v (eaUV F.o p w f).2):=by
  refine gRun_runs hG ((ea_q6 F p tk r w c s f).trans ?_)
  unfold eaUV
  cases decide (w≥1048576)<;>rfl
 refine h6.seq ?_
 generalize eaUV F.o p w f=x
 obtain ⟨⟨u,v⟩,g⟩:=x
 unfold eaMid
 dsimp only
 have h7:=gRunL_runs hG (ea_q7 F tk r c s u v g)
 generalize F.te g (c,s,())=T at h7 ⊢
 have h8:=gRun_runs hG (ea_q8 F tk r c s u v T.1 T.2)
 have h9:=gRun_runs hG (ea_q9 F tk r c s u v T.1 T.2)
 generalize F.o.div T.2 7005208482886 r=ra at h9 ⊢
 have h10:=gRun_runs hG (ea_q10 F tk c s u v ra.1 T.1 ra.2)
 generalize F.o.mul ra.2 ra.1 ra.1=q at h10 ⊢
 have h11:=gRun_runs hG (ea_q11 F tk c s u v ra.1 T.1 q.2 q.1)
 have h12:=ea_loop hG tk c s u v ra.1 T.1 ⟨q.1,0,0,0,0,0⟩ q.2
 exact h7.seq (h8.seq (h9.seq (h10.seq ((h11.seq h12).seq (ea_end hG tk c s u v ra.1 T.1 _)))))
theorem ea_go(p:V3)(tk r:Int):RunsTo Tryz.prog 247 (.seq (eaL 4) (.seq (eaL 5) (.seq (eaL 6) (.seq (eaL 7) (.seq (eaL 8) (.seq (eaL 9) (.seq (eaL 10) (.seq (.seq (seqL (eaL 11)) (.block 0 (.loop eaB))) (eaR 12))))))))) (eaS1 p tk r false) .ret (eaZ (eaGo F p tk r).1 (eaGo F p tk r).2 (4096+3*2^180)):=by
 have h4:=gRun_runs hG (ea_q4 F p tk r false)
 unfold eaGo
 dsimp only
 generalize eaW F p false=w at h4 ⊢
 exact h4.seq ((gRun_runs hG (ea_q5 F p tk r w.1 w.2)).seq (ea_mid hG p tk r w.1 _ _ _))
theorem ea_runs(b:Bool)(p:V3)(tk:Int):∃lo,RunsTo Tryz.prog 247 (.seq (eaL 0) (.seq (eaL 1) (.seq (eaL 2) (.seq (eaL 3) (.seq (eaL 4) (.seq (eaL 5) (.seq (eaL 6) (.seq (eaL 7) (.seq (eaL 8) (.seq (eaL 9) (.seq (eaL 10) (.seq (.seq (seqL (eaL 11)) (.block 0 (.loop eaB))) (eaR 12))))))))))))) (startS 247 [.ptr 0 0,.val (Cod.enc p),.val (.int .i64 tk)] (row 57 b)) .ret (eaZ (earthO F b (p,tk,())).1 (earthO F b (p,tk,())).2 lo):=by
 have h0:=gRun_runs hG (ea_q0 F p tk b)
 have h1:=gRun_runs hG (ea_q1 F p tk b)
 unfold earthO
 dsimp only
 generalize F.vn b (p,())=r at h1 ⊢
 have h2:RunsTo Tryz.prog 247 (eaL 2) (eaS1 p tk r.1 r.2) .normal (eaS1 p tk r.1 (eaPre F tk r.1 r.2)):=by
  refine gRun_runs hG ((ea_q2 F p tk r.1 r.2).trans ?_)
  unfold eaPre
  cases F.rt (tk,())<;>cases decide (r.1<6597069766656)<;>cases decide (r.1>10995116277760)<;>rfl
 cases hp:eaPre F tk r.1 r.2 with
 | true =>
  rw[hp]at h2
  exact ⟨_,h0.seq (h1.seq (h2.seq (RunsTo.seqR (gRun_runs hG (ea_q3t F p tk r.1)))))⟩
 | false =>
  rw[hp]at h2
  exact ⟨_,h0.seq (h1.seq (h2.seq ((gRun_runs hG (ea_q3f F p tk r.1)).seq (ea_go hG p tk r.1))))⟩
end
theorem ea_res(p:V3)(f:Bool)(lo:Nat):resA Tryz.prog (eaZ p f lo) Tryz.f221.results.toList=some [.val (Cod.enc p)]:=by kernel_rfl
theorem okEarth{F:EOps}(hG:GamOk Tryz.prog (eF F).gam):SumOk Tryz.prog 221 (S 57 (earthO F)):=by
 intro args cs r cs' h
 obtain ⟨b,a,rfl,rfl,rfl,rfl⟩:=S_sel h
 obtain ⟨p,tk,u⟩:=a
 obtain ⟨lo,hr⟩:=ea_runs hG b p tk
 refine sum_runs f221_is eaC_is eaN_is (by show 3≤247;omega) (by simp[row]) rfl rfl rfl (.inr rfl) hr (ea_res ..) rfl rfl (fun b' c hb=>?_) rfl rfl
 match b',hb with
 | 0,hb=>cases hb;rfl
 | n+1,hb=>simp[row]at hb
end Go.Ab
namespace Go.Ab
open Go Go.Proofs
structure SkOps where
 o:Ops
 sn:Bool→Int×Unit→Int×Bool
 cs:Bool→Int×Unit→Int×Bool
 tn:Bool→Int×Unit→Int×Bool
 ea:Bool→V3×Int×Unit→V3×Bool
def sky0(F:SkOps)(b:Bool)(p:V3)(tk:Int):V3×Bool :=
 let o:=F.o
 let q:=F.tn b (tk,())
 let c:=F.cs q.2 (q.1,())
 let s:=F.sn c.2 (q.1,())
 let x1:=o.mul s.2 p.x c.1
 let x2:=o.mul x1.2 p.y s.1
 let x:=o.add x2.2 x1.1 x2.1
 let y1:=o.mul x.2 p.y c.1
 let y2:=o.mul y1.2 p.x s.1
 let y:=o.sub y2.2 y1.1 y2.1
 let e:=F.ea y.2 (⟨x.1,y.1,p.z⟩,tk,())
 let u1:=o.mul e.2 e.1.x c.1
 let u2:=o.mul u1.2 e.1.y s.1
 let u:=o.sub u2.2 u1.1 u2.1
 let v1:=o.mul u.2 e.1.y c.1
 let v2:=o.mul v1.2 e.1.x s.1
 let v:=o.add v2.2 v1.1 v2.1
 (⟨u.1,v.1,e.1.z⟩,v.2)
def EF:EOps:={o:=opsF,vn:=vnorm opsF,rt:=fun p=>isTick p.1,te:=termsO opsF,nm:=numV}
theorem EF_o:EF.o=opsF:=by simp only[EF]
theorem EF_vn:EF.vn=vnorm opsF:=by simp only[EF]
theorem EF_rt:EF.rt=fun p=>isTick p.1:=by simp only[EF]
theorem EF_te:EF.te=termsO opsF:=by simp only[EF]
theorem EF_nm:EF.nm=numV:=by simp only[EF]
def earthV:Bool→V3×Int×Unit→V3×Bool:=earthO EF
theorem gamEF:GamOk Tryz.prog (eF EF).gam:=by
 show GamOk Tryz.prog ((137,S 57 EF.vn) :: (87,S0 EF.rt) :: (245,termsS EF.te) :: (246,Sc 57 preNum EF.nm) :: gamN EF.o)
 rw[EF_o,EF_vn,EF_rt,EF_te,EF_nm]
 exact .cons ok66 (.cons ok40 (.cons (okTerms gamN_ok) (.cons okNum246 gamN_ok)))
theorem okEarthV:SumOk Tryz.prog 221 (S 57 earthV):=okEarth gamEF
def skyF:SkOps:={o:=opsF,sn:=sinV,cs:=cosV,tn:=vturn opsF (vdays opsF),ea:=earthV}
theorem skyF_o:skyF.o=opsF:=by simp only[skyF]
theorem skyF_sn:skyF.sn=sinV:=by simp only[skyF]
theorem skyF_cs:skyF.cs=cosV:=by simp only[skyF]
theorem skyF_tn:skyF.tn=vturn opsF (vdays opsF):=by simp only[skyF]
theorem skyF_ea:skyF.ea=earthV:=by simp only[skyF]
def gamSkP(F:SkOps):Gam:=(220,S 57 F.tn) :: (221,S 57 F.ea) :: gamS F.o F.sn F.cs
theorem sky170P(F:SkOps)(b:Bool)(p:V3)(tk:Int):fnSum Tryz.prog {gam:=gamSkP F} [] 20 170 [.ptr 0 0,.val (Cod.enc p),.val (.int .i64 tk)] (row 57 b)=snT 57 (sky0 F b p tk):=by kernel_rfl
theorem gamSkP_ok:GamOk Tryz.prog (gamSkP skyF):=by
 unfold gamSkP
 rw[skyF_o,skyF_sn,skyF_cs,skyF_tn,skyF_ea]
 exact .cons ok54 (.cons okEarthV gamS_ok)
def skyV(b:Bool)(p:V3×Int×Unit):V3×Bool:=done3 (sky0 skyF b p.1 p.2.1)
theorem okSky:SumOk Tryz.prog 170 (S 57 skyV):=S_ok gamSkP_ok 20 fun b a=>(sky170P skyF b a.1 a.2.1).trans (snT_eq ..)
end Go.Ab
namespace Go.Ab
open Go Go.Proofs
structure Tl where
 tk:Int
 mode:Int
 faults:Int
 ack:Int
 err:Int
 rej:Int
 q:V4
 d:V3
instance:Cod Tl where
 enc t:=.agg #[.int .i64 t.tk,.int .i64 t.mode,.int .i64 t.faults,.int .i64 t.ack,.int .i64 t.err,.int .i64 t.rej,.int .i64 t.q.w,.int .i64 t.q.x,.int .i64 t.q.y,.int .i64 t.q.z,.int .i64 t.d.x,.int .i64 t.d.y,.int .i64 t.d.z]
 dec v:=match v with | .agg ⟨[.int .i64 a,.int .i64 b,.int .i64 c,.int .i64 d,.int .i64 e,.int .i64 f,.int .i64 g,.int .i64 h,.int .i64 i,.int .i64 j,.int .i64 k,.int .i64 l,.int .i64 m]⟩=>some ⟨a,b,c,d,e,f,⟨g,h,i,j⟩,⟨k,l,m⟩⟩ | _=>none
 law v a h:=by split at h<;>simp_all;subst h;simp
theorem r230(rt:Int×Unit→Bool)(a b c d e f g h i j k l m:Int):fnSum Tryz.prog {gam:=[(87,S0 rt)]} [] 20 230 [.val (.agg #[.int .i64 a,.int .i64 b,.int .i64 c,.int .i64 d,.int .i64 e,.int .i64 f,.int .i64 g,.int .i64 h,.int .i64 i,.int .i64 j,.int .i64 k,.int .i64 l,.int .i64 m])] []=(bif g != IntKind.i64.wrap (IntKind.i16.wrap g) then some (AV.val (Value.bool false),[]) else bif h != IntKind.i64.wrap (IntKind.i16.wrap h) then some (AV.val (Value.bool false),[]) else bif i != IntKind.i64.wrap (IntKind.i16.wrap i) then some (AV.val (Value.bool false),[]) else bif j != IntKind.i64.wrap (IntKind.i16.wrap j) then some (AV.val (Value.bool false),[]) else bif k != IntKind.i64.wrap (IntKind.i16.wrap k) then some (AV.val (Value.bool false),[]) else bif l != IntKind.i64.wrap (IntKind.i16.wrap l) then some (AV.val (Value.bool false),[]) else bif m != IntKind.i64.wrap (IntKind.i16.wrap m) then some (AV.val (Value.bool false),[]) else bif d != IntKind.i64.wrap (IntKind.u8.wrap d) then some (AV.val (Value.bool false),[]) else bif e != IntKind.i64.wrap (IntKind.u8.wrap e) then some (AV.val (Value.bool false),[]) else bif rt (a,()) then bif bif true then decide (b≥0) else false then bif bif true then decide (b≤3) else false then bif bif true then decide (c≥0) else false then bif bif true then decide (c≤15) else false then some (AV.val (Value.bool (bif true then f==IntKind.i64.wrap (IntKind.u16.wrap f) else false)),[]) else some (AV.val (Value.bool false),[]) else some (AV.val (Value.bool false),[]) else some (AV.val (Value.bool false),[]) else some (AV.val (Value.bool false),[]) else some (AV.val (Value.bool false),[])):=by kernel_rfl
def fit16(x:Int):Bool:=x==IntKind.i64.wrap (IntKind.i16.wrap x)
def tlOk(rt:Int×Unit→Bool)(t:Tl):Bool:=fit16 t.q.w&&(fit16 t.q.x&&(fit16 t.q.y&&(fit16 t.q.z&&(fit16 t.d.x&&(fit16 t.d.y&&(fit16 t.d.z&&((t.ack==IntKind.i64.wrap (IntKind.u8.wrap t.ack))&&((t.err==IntKind.i64.wrap (IntKind.u8.wrap t.err)) &&
 (rt (t.tk,())&&(decide (t.mode≥0)&&(decide (t.mode≤3)&&(decide (t.faults≥0)&&(decide (t.faults≤15)&&(t.rej==IntKind.i64.wrap (IntKind.u16.wrap t.rej)))))))))))))))
theorem right230(rt:Int×Unit→Bool)(t:Tl):fnSum Tryz.prog {gam:=[(87,S0 rt)]} [] 20 230 [.val (Cod.enc t)] []=some (.val (.bool (tlOk rt t)),[]):=by
 refine (r230 rt t.tk t.mode t.faults t.ack t.err t.rej t.q.w t.q.x t.q.y t.q.z t.d.x t.d.y t.d.z).trans ?_
 simp only[cond_false,cond_true,pullB,pullT,bne,Bool.not_not]
 rfl
def tlRight(t:Tl):Bool:=tlOk (fun p=>isTick p.1) t
theorem okTlRight:SumOk Tryz.prog 230 (S0 fun (p:Tl×Unit)=>tlRight p.1):=S0_ok (E:={gam:=[(87,S0 fun (p:Int×Unit)=>isTick p.1)]}) (.cons ok40 .nil) 20 fun a=>right230 _ a.1
def cnt0(pt:Bool→Int×Int×Int×Unit→Int×Bool)(q:V4)(v:V3):Two V4 V3×Bool :=
 let a:=pt false (q.w,1,67108864,())
 let b:=pt a.2 (q.x,1,67108864,())
 let c:=pt b.2 (q.y,1,67108864,())
 let d:=pt c.2 (q.z,1,67108864,())
 let x:=pt d.2 (v.x,10000,1099511627776,())
 let y:=pt x.2 (v.y,10000,1099511627776,())
 let z:=pt y.2 (v.z,10000,1099511627776,())
 (⟨⟨a.1,b.1,c.1,d.1⟩,⟨x.1,y.1,z.1⟩⟩,z.2)
def cntTl(c:Two V4 V3):Tl:=⟨0,0,0,0,0,0,c.a,c.b⟩
theorem counts176(rg:Tl×Unit→Bool)(pt:Bool→Int×Int×Int×Unit→Int×Bool)(q:V4)(v:V3):fnSum Tryz.prog {gam:=[(230,S0 rg),(65,S 57 pt)]} [] 20 176 [.val (Cod.enc q),.val (Cod.enc v)] [] =
  bif (cnt0 pt q v).2 then some (.val (Cod.enc (Two.mk V4.zero V3.zero)),[]) else bif !rg (cntTl (cnt0 pt q v).1,()) then some (.val (Cod.enc (Two.mk V4.zero V3.zero)),[]) else some (.val (Cod.enc (cnt0 pt q v).1),[]):=by kernel_rfl
def countsO(rg:Tl×Unit→Bool)(pt:Bool→Int×Int×Int×Unit→Int×Bool)(p:V4×V3×Unit):Two V4 V3:=bif (cnt0 pt p.1 p.2.1).2 then ⟨V4.zero,V3.zero⟩ else bif !rg (cntTl (cnt0 pt p.1 p.2.1).1,()) then ⟨V4.zero,V3.zero⟩ else (cnt0 pt p.1 p.2.1).1
def countsV:V4×V3×Unit→Two V4 V3:=countsO (fun p=>tlRight p.1) (op3 fpart)
theorem countsT_eq(c d:Bool)(x y:Two V4 V3):(bif c then some (AV.val (Cod.enc x),([]:List Con)) else bif d then some (.val (Cod.enc x),[]) else some (.val (Cod.enc y),[]))=some (.val (Cod.enc (bif c then x else bif d then x else y)),[]):=by cases c<;>cases d<;>rfl
theorem okCounts:SumOk Tryz.prog 176 (S0 countsV):=S0_ok (E:={gam:=[(230,S0 fun (p:Tl×Unit)=>tlRight p.1),(65,S 57 (op3 fpart))]}) (.cons okTlRight (.cons ok116 .nil)) 20 fun a=>(counts176 _ _ a.1 a.2.1).trans (countsT_eq ..)
end Go.Ab
namespace Go.Ab
open Go
section
variable {P:Program} {N:Nat} {ops:Array Oper} {Q:Exit→Act→World→Prop} {F:Nat→Prop} {w0:World} {s:St} {a:Act} {w:World}
theorem Here.move{σ:Nat→Option Nat}(h:Here N s σ a w){w':World}(hgrow:w.heap.size≤w'.heap.size)(hsame:∀b r,σ b=some r→w'.heap[r]?=w.heap[r]?):Here N s σ a w':=by
 obtain ⟨⟨u,hf,hs⟩,hn⟩:=h
 refine ⟨⟨u,{hf with row:=fun b e cs hb=>?_,obj:=fun b o hb=>?_,bound:=fun b r hb=>Nat.lt_of_lt_of_le (hf.bound b r hb) hgrow,ownsR:=fun b _ _ _ _ hr=>.inl ⟨b,hr⟩,ownsO:=fun b _ _ _ hr=>.inl ⟨b,hr⟩,os:=rfl,tape:=rfl,output:=rfl,grown:=Nat.le_refl _,frame:=fun _ _ _=>rfl},hs⟩,hn⟩
 ·obtain ⟨r,vs,h1,h2,h3⟩:=hf.row b e cs hb
  exact ⟨r,vs,h1,by rw[hsame b r h1];exact h2,h3⟩
 ·obtain ⟨r,o',h1,h2,h3⟩:=hf.obj b o hb
  exact ⟨r,o',h1,by rw[hsame b r h1];exact h2,h3⟩
theorem Here.put{σ:Nat→Option Nat}(h:Here N s σ a w){d:Nat}(hd:d<N)(hlen:s.tmps.length=N){v:AV}{x:Value}(hv:Rel σ v x):Here N {s with tmps:=s.tmps.set d v} σ (a.put (some d) x) w:=by
 obtain ⟨⟨u,hf,hs⟩,hn⟩:=h
 refine ⟨⟨upd1 u (.tmp d) (.av v),hf.put hd hv,fun l c h=>?_⟩,hn⟩
 cases l with
 | blk b=>simpa[upd1]using hs (.blk b) c h
 | tmp t =>
  by_cases e:t=d
  ·subst e
   simp only[St.u,stU,List.getElem?_set_self (by omega:t<s.tmps.length),Option.map_some,Option.some.injEq]at h
   subst h
   simp[upd1]
  ·simp only[St.u,stU,List.getElem?_set_ne (Ne.symm e)]at h
   have:upd1 u (.tmp d) (.av v) (.tmp t)=u (.tmp t):=by simp[upd1,e]
   rw[this]
   exact hs _ _ h
def Wide(F:Nat→Prop)(w w':World):Nat→Prop:=fun j=>F j∨(w.heap.size≤j∧j<w'.heap.size)
theorem Stand.moved(h:Stand F w0 N s a w){w':World}(hgrow:w.heap.size≤w'.heap.size)(hsame:∀j,j<w.heap.size→¬ F j→w'.heap[j]?=w.heap[j]?):Stand (Wide F w w') w' N s a w':=by
 obtain ⟨σ,h1,hk,hF⟩:=h
 have hb:∀b r,σ b=some r→r<w.heap.size:=by
  obtain ⟨⟨u,hf,_⟩,_⟩:=h1
  exact hf.bound
 refine ⟨σ,h1.move hgrow fun b r hr=>hsame r (hb b r hr) (hF b r hr),Keep.refl fun k hk'=>?_,fun b r hr hW=>?_⟩
 ·rcases hk' with h2 | h2
  ·exact Nat.lt_of_lt_of_le (hk.lt h2) hgrow
  ·exact h2.2
 ·rcases hW with h2 | h2
  ·exact hF b r hr h2
  ·have :=hb b r hr;omega
theorem Stand.put(h:Stand F w0 N s a w){d:Nat}(hd:d<N)(hlen:s.tmps.length=N)(v:Value):Stand F w0 N {s with tmps:=s.tmps.set d (.val v)} (a.put (some d) v) w:=by
 obtain ⟨σ,h1,h2,h3⟩:=h
 exact ⟨σ,h1.put hd hlen (by simp only[Rel]),h2,h3⟩
theorem op_world{k d:Nat}{op:Op}(hs:sigOf ops k=some (op,some d,true))(hd:d<N)(hlen:s.tmps.length=N)(hh:Stand F w0 N s a w){v:Value}{w':World}
  (hrun:∀o:Oper,o.op=op→(execOp a.eval o).run P w=.ok (.value v) w') (hgrow:w.heap.size≤w'.heap.size) (hsame:∀j,j<w.heap.size→¬ F j→w'.heap[j]?=w.heap[j]?) (rest:List Nat)
  (hK:∀a',Stand (Wide F w w') w' N {s with tmps:=s.tmps.set d (.val v)} a' w'→wpOps P ops Q rest a' w'):wpOps P ops Q (k :: rest) a w:=by
 obtain ⟨o,ho,hop,hdst,hg⟩:=sigOf_some hs
 rw[wpOps_cons]
 unfold wpOp
 rw[ho]
 simp only
 rw[if_pos (by simp[Region.wanted,hg])]
 refine .inl ?_
 unfold Oper.wp
 rw[hrun o hop,Oper.upon_value,hdst]
 exact hK _ ((hh.moved hgrow hsame).put hd hlen v)
theorem op_here{k d:Nat}{op:Op}(hs:sigOf ops k=some (op,some d,true))(hd:d<N)(hlen:s.tmps.length=N)(hh:Stand F w0 N s a w){v:Value}
  (hrun:∀o:Oper,o.op=op→(execOp a.eval o).run P w=.ok (.value v) w) (rest:List Nat)
  (hK:∀a',Stand F w0 N {s with tmps:=s.tmps.set d (.val v)} a' w→wpOps P ops Q rest a' w):wpOps P ops Q (k :: rest) a w:=by
 obtain ⟨o,ho,hop,hdst,hg⟩:=sigOf_some hs
 exact op_stand ho hg hdst hd hlen hh (hrun o hop) rest hK
theorem call_world {k d f : Nat} {c : Call} {fn : Func} (hs : sigOf ops k = some (.call c, some d, true)) (hd : d < N) (hlen : s.tmps.length = N) (hh : Stand F w0 N s a w) (hcal : c.callee = .value (.func f)) (hfn : P.funcs[f]? = some fn) (hb : (fn.body.isSome && !fn.name == "runtime.NumGoroutine") = true)
  {args:Array Value} (hargs:c.args.map a.eval=args) {X:Value→World→Prop} (hc:Calls P f args w fun e w'=>∃v,e=.returned v∧RowKit.Below w.heap.size w w'∧X v w') (rest:List Nat)
  (hK:∀v a' w',X v w'→RowKit.Below w.heap.size w w'→Stand (Wide F w w') w' N {s with tmps:=s.tmps.set d (.val v)} a' w'→wpOps P ops Q rest a' w'):wpOps P ops Q (k :: rest) a w:=by
 obtain ⟨o,ho,hop,hdst,hg⟩:=sigOf_some hs
 rw[wpOps_cons]
 unfold wpOp
 rw[ho]
 simp only
 rw[if_pos (by simp[Region.wanted,hg])]
 refine .inl ?_
 unfold Oper.wp
 have hexec:(execOp a.eval o).run P w=.ok (.enter f args) w:=by
  have e:a.eval (.func f)=.func (.func f) #[] #[]:=rfl
  simp only[execOp,hop,resolve,hcal,e,Deferred.ofValue,Sem.run_bind,Sem.run_pure,Result.andThen_ok,invoke,run_callFunc hfn hb,hargs,Array.empty_append,Array.append_empty]
 rw[hexec]
 simp only[Oper.upon]
 refine Calls.mono hc fun e w' he=>?_
 obtain ⟨v,rfl,h1,h2⟩:=he
 simp only
 rw[hdst]
 exact hK v _ w' h2 h1 ((hh.moved h1.size fun j hj _=>h1.block j hj).put hd hlen v)
theorem hget_own{H:Hp}{b:Nat}{c:Con}{s:St}(hs:s.heap=H)(h:hget H b=some c):s.u (.blk b)=some c:=by subst hs;exact h
theorem own_index{k d:Nat}{t elem:TypeId}{n:Nat}{x ix:Nat}{ti:TypeInfo}(hs:sigOf ops k=some (.indexAddr t (.tmp x) (.tmp ix),some d,true))(hd:d<N)(hlen:s.tmps.length=N)(hu:P.underlying t=some (.array n elem))(hi:P.info? elem=some ti)(h1:ti.size=1)
  (hh:Stand F w0 N s a w) {b j:Nat} {ik:IntKind} (hx:s.tmps[x]?=some (.ptr b 0)) (hix:s.tmps[ix]?=some (.val (.int ik j))) (hlt:j<n) (rest:List Nat)
  (hK:∀a',Stand F w0 N {s with tmps:=s.tmps.set d (.ptr b j)} a' w→wpOps P ops Q rest a' w):wpOps P ops Q (k :: rest) a w:=by
 have hjx:=hh.eval hix
 obtain ⟨o,ho,hop,hdst,hg⟩:=sigOf_some hs
 obtain ⟨σ,h2,h3,h4⟩:=hh
 obtain ⟨y,hy,hrel⟩:=h2.tmp hx
 simp only[Rel]at hrel
 obtain ⟨r,hr,rfl⟩:=hrel
 rw[wpOps_cons]
 unfold wpOp
 rw[ho]
 simp only
 rw[if_pos (by simp[Region.wanted,hg])]
 refine .inl ?_
 unfold Oper.wp
 have hxe:a.eval (.tmp x)=.pointer (some ⟨r,0,none⟩):=by simp[Act.eval,hy]
 have hb:0≤(j:Int)∧(j:Int)<(n:Int):=by omega
 have hrun:(execOp a.eval o).run P w=.ok (.value (.pointer (some ⟨r,j,none⟩))) w:=by
  simp only[execOp,hop,Instr.indexAt,hjx,asIntOf,Sem.run_bind,run_underlying hu,Result.andThen_ok,hxe,Instr.sureAddr,Sem.run_pure,Sem.run_ite,if_pos hb,run_sizeOf hi,Int.toNat_natCast,h1,Nat.mul_one,addr_add,Nat.zero_add]
 rw[hrun,Oper.upon_value,hdst]
 exact hK _ ⟨σ,h2.put hd hlen (by simp only[Rel];exact ⟨r,hr,rfl⟩),h3,h4⟩
theorem own_load{k d:Nat}{t:TypeId}{x:Nat}{td:TypeDesc}(hs:sigOf ops k=some (.load t (.tmp x),some d,true))(hd:d<N)(hlen:s.tmps.length=N)(hu:P.underlying t=some td)(hag:isAggD td=false)
  (hh:Stand F w0 N s a w) {b j e:Nat} {cs:List AV} {v:Value} (hx:s.tmps[x]?=some (.ptr b j)) (hrow:hget s.heap b=some (.row e cs)) (hv:cs[j]?=some (.val v)) (rest:List Nat)
  (hK:∀a',Stand F w0 N {s with tmps:=s.tmps.set d (.val v)} a' w→wpOps P ops Q rest a' w):wpOps P ops Q (k :: rest) a w:=by
 obtain ⟨σ,h2,h3,h4⟩:=hh
 obtain ⟨y,hy,hrel⟩:=h2.tmp hx
 simp only[Rel]at hrel
 obtain ⟨r,hr,rfl⟩:=hrel
 have hxe:a.eval (.tmp x)=.pointer (some ⟨r,j,none⟩):=by simp[Act.eval,hy]
 have hcell:w.cell? ⟨r,j,none⟩=some v:=by
  obtain ⟨⟨u,hf,hsub⟩,_⟩:=h2
  obtain ⟨r',vs,h5,h6,h7⟩:=hf.row b e cs (hsub _ _ (hget_own rfl hrow))
  rw[hr]at h5
  cases h5
  obtain ⟨z,hz,hzr⟩:=Rels.get h7 hv
  simp only[Rel]at hzr
  subst hzr
  simp[World.cell?,h6,hz]
 refine load_stand hs hd hlen ⟨σ,h2,h3,h4⟩ hxe (run_loadScalar hu hag hcell) rest hK
end
end Go.Ab
namespace Go.Ab
theorem wrapM(z:Int):IntKind.i64.wrap z=(z+9223372036854775808) % 18446744073709551616-9223372036854775808:=by
 have:IntKind.i64.wrap z=if z % 18446744073709551616≥9223372036854775808 then z % 18446744073709551616-18446744073709551616 else z % 18446744073709551616:=by
  simp[IntKind.wrap,IntKind.bits,IntKind.signed]
 rw[this]
 split<;>omega
end Go.Ab
namespace Go.Ab
open Go
def xorV(k:IntKind)(a b:Int):Int:=k.wrap ↑(BitVec.ofInt k.bits a ^^^ BitVec.ofInt k.bits b).toNat
theorem wrap8(x:Nat):IntKind.u8.wrap (x:Int)=((x % 256:Nat):Int):=by
 simp[IntKind.wrap,IntKind.bits,IntKind.signed]
theorem wrap16(x:Nat):IntKind.u16.wrap (x:Int)=((x % 65536:Nat):Int):=by
 simp[IntKind.wrap,IntKind.bits,IntKind.signed]
theorem xor8{a b:Nat}(ha:a<256)(hb:b<256):xorV .u8 a b=((a ^^^ b:Nat):Int):=by
 have h:a ^^^ b<2^8:=Nat.xor_lt_two_pow (by omega) (by omega)
 have e:(BitVec.ofInt IntKind.u8.bits (a:Int) ^^^ BitVec.ofInt IntKind.u8.bits (b:Int)).toNat=a ^^^ b:=by
  show (BitVec.ofInt 8 (a:Int) ^^^ BitVec.ofInt 8 (b:Int)).toNat=_
  rw[BitVec.ofInt_natCast,BitVec.ofInt_natCast,BitVec.toNat_xor,BitVec.toNat_ofNat,BitVec.toNat_ofNat,Nat.mod_eq_of_lt (by omega),Nat.mod_eq_of_lt (by omega)]
 unfold xorV
 rw[e,wrap8,Nat.mod_eq_of_lt (by omega)]
theorem xor16{a b:Nat}(ha:a<65536)(hb:b<65536):xorV .u16 a b=((a ^^^ b:Nat):Int):=by
 have h:a ^^^ b<2^16:=Nat.xor_lt_two_pow (by omega) (by omega)
 have e:(BitVec.ofInt IntKind.u16.bits (a:Int) ^^^ BitVec.ofInt IntKind.u16.bits (b:Int)).toNat=a ^^^ b:=by
  show (BitVec.ofInt 16 (a:Int) ^^^ BitVec.ofInt 16 (b:Int)).toNat=_
  rw[BitVec.ofInt_natCast,BitVec.ofInt_natCast,BitVec.toNat_xor,BitVec.toNat_ofNat,BitVec.toNat_ofNat,Nat.mod_eq_of_lt (by omega),Nat.mod_eq_of_lt (by omega)]
 unfold xorV
 rw[e,wrap16,Nat.mod_eq_of_lt (by omega)]
def sh1(r:Nat):Nat:=(r*2 % 65536) ^^^ (r / 32768*4129)
def sh8(r:Nat):Nat:=sh1 (sh1 (sh1 (sh1 (sh1 (sh1 (sh1 (sh1 r)))))))
theorem sh1_lt{r:Nat}(h:r<65536):sh1 r<65536:=by
 unfold sh1
 have h2:r / 32768*4129<65536:=by
  have:r / 32768<2:=by omega
  omega
 exact Nat.xor_lt_two_pow (n:=16) (by omega) h2
theorem sh8_lt{r:Nat}(h:r<65536):sh8 r<65536:=by
 unfold sh8
 exact sh1_lt (sh1_lt (sh1_lt (sh1_lt (sh1_lt (sh1_lt (sh1_lt (sh1_lt h)))))))
theorem div_xor{a b:Nat}:(a ^^^ b) / 32768=(a / 32768) ^^^ (b / 32768):=by
 have e:∀x:Nat,x / 32768=x >>> 15:=fun x=>by rw[Nat.shiftRight_eq_div_pow]
 rw[e,e,e,Nat.shiftRight_xor_distrib]
theorem dbl_xor{a b:Nat}:(a ^^^ b)*2 % 65536=(a*2 % 65536) ^^^ (b*2 % 65536):=by
 have e:∀x:Nat,x*2 % 65536=(x <<< 1) % 2^16:=fun x=>by rw[Nat.shiftLeft_eq]
 rw[e,e,e,Nat.shiftLeft_xor_distrib,Nat.xor_mod_two_pow]
theorem xor4(x y z v:Nat):(x ^^^ y) ^^^ (z ^^^ v)=(x ^^^ z) ^^^ (y ^^^ v):=by rw[Nat.xor_assoc,← Nat.xor_assoc y z v,Nat.xor_comm y z,Nat.xor_assoc z y v,← Nat.xor_assoc x z]
theorem xor3f{r z y w:Nat}(h:r=z ^^^ y):r ^^^ w=z ^^^ (y ^^^ w):=by rw[h,Nat.xor_assoc]
theorem sh1_xor{a b:Nat}(ha:a<65536)(hb:b<65536):sh1 (a ^^^ b)=sh1 a ^^^ sh1 b:=by
 unfold sh1
 rw[div_xor,dbl_xor]
 have h1:a / 32768=0∨a / 32768=1:=by omega
 have h2:b / 32768=0∨b / 32768=1:=by omega
 have key:((a / 32768) ^^^ (b / 32768))*4129=(a / 32768*4129) ^^^ (b / 32768*4129):=by
  rcases h1 with h1 | h1<;>rcases h2 with h2 | h2<;>rw[h1,h2]<;>rfl
 rw[key]
 exact xor4 _ _ _ _
theorem sh8_xor{a b:Nat}(ha:a<65536)(hb:b<65536):sh8 (a ^^^ b)=sh8 a ^^^ sh8 b:=by
 unfold sh8
 have l1:∀{x:Nat},x<65536→sh1 x<65536:=sh1_lt
 rw[sh1_xor ha hb,sh1_xor (l1 ha) (l1 hb),sh1_xor (l1 (l1 ha)) (l1 (l1 hb)),sh1_xor (l1 (l1 (l1 ha))) (l1 (l1 (l1 hb))),sh1_xor (l1 (l1 (l1 (l1 ha)))) (l1 (l1 (l1 (l1 hb)))),
  sh1_xor (l1 (l1 (l1 (l1 (l1 ha))))) (l1 (l1 (l1 (l1 (l1 hb))))),sh1_xor (l1 (l1 (l1 (l1 (l1 (l1 ha)))))) (l1 (l1 (l1 (l1 (l1 (l1 hb)))))),sh1_xor (l1 (l1 (l1 (l1 (l1 (l1 (l1 ha))))))) (l1 (l1 (l1 (l1 (l1 (l1 (l1 hb)))))))]
theorem sh8_low:∀x:Fin 256,sh8 x.val=x.val*256:=by decide +kernel
def stT(r c:Nat):Nat:=(r*256 % 65536) ^^^ sh8 ((r / 256 ^^^ c)*256)
def stR(r c:Nat):Nat:=sh8 (r ^^^ (c*256))
theorem st_eq{r c:Nat}(hr:r<65536)(hc:c<256):stT r c=stR r c:=by
 have e:r ^^^ (c*256)=(r % 256) ^^^ ((r / 256 ^^^ c)*256):=by
  have h1:r=(r % 256) ^^^ (r / 256*256):=by
   have h2:r % 256<2^8:=by omega
   have :=Nat.two_pow_add_eq_or_of_lt h2 (r / 256)
   apply Nat.eq_of_testBit_eq
   intro i
   rw[Nat.testBit_xor]
   have e1:r % 256=r % 2^8:=rfl
   have e2:r / 256*256=(r >>> 8) <<< 8:=by rw[Nat.shiftLeft_eq,Nat.shiftRight_eq_div_pow]
   rw[e1,e2,Nat.testBit_mod_two_pow,Nat.testBit_shiftLeft,Nat.testBit_shiftRight]
   by_cases hi:i<8
   ·simp[hi,show ¬ 8≤i by omega]
   ·simp[hi,show 8≤i by omega,show 8+(i-8)=i by omega]
  have h3:(r / 256 ^^^ c)*256=(r / 256*256) ^^^ (c*256):=by
   have e:∀x:Nat,x*256=x <<< 8:=fun x=>by rw[Nat.shiftLeft_eq]
   rw[e,e,e,Nat.shiftLeft_xor_distrib]
  rw[h3]
  exact xor3f h1
 have hx:r / 256 ^^^ c<2^8:=Nat.xor_lt_two_pow (by omega) (by omega)
 unfold stT stR
 rw[e,sh8_xor (by omega) (by omega)]
 have :=sh8_low ⟨r % 256,by omega⟩
 simp only at this
 rw[this]
 congr 1
 omega
theorem st_lt{r c:Nat}(hr:r<65536)(hc:c<256):stR r c<65536:=by
 unfold stR
 exact sh8_lt (Nat.xor_lt_two_pow (n:=16) (by omega) (by omega))
def crcF(l:List UInt8)(r:Nat):Nat:=l.foldl (fun r b=>stR r b.toNat) r
theorem crcF_lt:∀(l:List UInt8) (r:Nat),r<65536→crcF l r<65536
 | [],r,h=>h
 | b :: l,r,h=>by
  unfold crcF
  rw[List.foldl_cons]
  exact crcF_lt l _ (st_lt h b.toNat_lt)
end Go.Ab
