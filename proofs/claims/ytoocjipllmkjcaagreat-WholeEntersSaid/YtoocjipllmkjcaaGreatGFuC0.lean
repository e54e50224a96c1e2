/- A part of the proofs: lemmas, no statement of their own; no condition. -/
import Derived.Test.YtoocjipllmkjcaaGreatFuB
import Derived.Test.YtoocjipllmkjcaaGreatGBeA
import Derived.Test.YtoocjipllmkjcaaGreatGMaA
import Derived.Lib.ConvBytes
import Derived.Test.YtoocjipllmkjcaaGreatGAbM
set_option linter.unusedSimpArgs false
namespace Go.Ab
open Go Go.Proofs
theorem Z4d(F:EOps)(tk c s u v ra:Int)(T:Nat→Int)(z:EZ)(f:Bool):gCut Tryz.prog (eF F) 247 eaB (eaI tk c s u v T ra 1 z f) (4096+3*2^180) [0,(4096+1*2^180),(4096+2*2^180)] [0,2,6,9,10,11,12,13,14,15,16,17,18,19]=some (.normal,eaI tk c s u v T ra 2 (C0b F.o F.nm u v tk T ra 0 (z,f)).1 (C0b F.o F.nm u v tk T ra 0 (z,f)).2):=by kernel_rfl
theorem Z4e(F:EOps)(tk c s u v ra:Int)(T:Nat→Int)(z:EZ)(f:Bool):gCut Tryz.prog (eF F) 247 eaB (eaI tk c s u v T ra 2 z f) (4096+3*2^180) [0,(4096+1*2^180),(4096+2*2^180)] [0,2,6,9,10,11,12,13,14,15,16,17,18,19]=some (.normal,eaI tk c s u v T ra 3 (C0b F.o F.nm u v tk T ra 1 (z,f)).1 (C0b F.o F.nm u v tk T ra 1 (z,f)).2):=by kernel_rfl
theorem Z4g(F:EOps)(tk c s u v ra:Int)(T:Nat→Int)(z:EZ)(f:Bool):gCut Tryz.prog (eF F) 247 eaB (eaI tk c s u v T ra 3 z f) (4096+3*2^180) [0,(4096+1*2^180),(4096+2*2^180)] [0,2,6,9,10,11,12,13,14,15,16,17,18,19]=some (.normal,eaI tk c s u v T ra 4 (C0b F.o F.nm u v tk T ra 2 (z,f)).1 (C0b F.o F.nm u v tk T ra 2 (z,f)).2):=by kernel_rfl
theorem Z4h(F:EOps)(tk c s u v ra:Int)(T:Nat→Int)(z:EZ)(f:Bool):gCut Tryz.prog (eF F) 247 eaB (eaI tk c s u v T ra 4 z f) (4096+3*2^180) [0,(4096+1*2^180),(4096+2*2^180)] [0,2,6,9,10,11,12,13,14,15,16,17,18,19]=some (.normal,eaI tk c s u v T ra 5 (C0b F.o F.nm u v tk T ra 3 (z,f)).1 (C0b F.o F.nm u v tk T ra 3 (z,f)).2):=by kernel_rfl
theorem Z4j(F:EOps)(tk c s u v ra:Int)(T:Nat→Int)(z:EZ)(f:Bool):gCut Tryz.prog (eF F) 247 eaB (eaI tk c s u v T ra 5 z f) (4096+3*2^180) [0,(4096+1*2^180),(4096+2*2^180)] [0,2,6,9,10,11,12,13,14,15,16,17,18,19]=some (.normal,eaI tk c s u v T ra 6 (C0b F.o F.nm u v tk T ra 4 (z,f)).1 (C0b F.o F.nm u v tk T ra 4 (z,f)).2):=by kernel_rfl
theorem Z4k(F:EOps)(tk c s u v ra:Int)(T:Nat→Int)(z:EZ)(f:Bool):gCut Tryz.prog (eF F) 247 eaB (eaI tk c s u v T ra 6 z f) (4096+3*2^180) [0,(4096+1*2^180),(4096+2*2^180)] [0,2,6,9,10,11,12,13,14,15,16,17,18,19]=some (.normal,eaI tk c s u v T ra 7 (C0b F.o F.nm u v tk T ra 5 (z,f)).1 (C0b F.o F.nm u v tk T ra 5 (z,f)).2):=by kernel_rfl
theorem X3z:Tryz.f221.body=some (.seq (eaL 0) (.seq (eaL 1) (.seq (eaL 2) (.seq (eaL 3) (.seq (eaL 4) (.seq (eaL 5) (.seq (eaL 6) (.seq (eaL 7) (.seq (eaL 8) (.seq (eaL 9) (.seq (eaL 10) (.seq (.seq (seqL (eaL 11)) (.block 0 (.loop eaB))) (eaR 12))))))))))))):=by kernel_rfl
theorem Y3g:Tryz.f221.ntmps=247:=by kernel_rfl
theorem G3p:Tryz.prog.funcs[221]?=some Tryz.f221:=by kernel_rfl
def V2c(F:EOps)(tk r:Int)(f:Bool):Bool:=bif !F.rt (tk,()) then true else bif decide (r<6597069766656) then true else bif decide (r>10995116277760) then true else f
structure UV where
 u:Int
 v:Int
def eaUV(o:Ops)(p:V3)(w:Int)(f:Bool):UV×Bool:=bif decide (w≥1048576) then (⟨(o.div f p.x w).1,(o.div (o.div f p.x w).2 p.y w).1⟩,(o.div (o.div f p.x w).2 p.y w).2) else (⟨1099511627776,0⟩,f)
def V2b(F:EOps)(tk r c s:Int)(uv:UV×Bool):V3×Bool :=
 let T:=F.te uv.2 (c,s,())
 let ra:=F.o.div T.2 7005208482886 r
 let t:=F.o.mul ra.2 ra.1 ra.1
 let z:=A0k (C0b F.o F.nm uv.1.u uv.1.v tk T.1 ra.1) 0 6 (⟨t.1,0,0,0,0,0⟩,t.2)
 let e:=J1c F.o c s uv.1.u uv.1.v z
 (bif e.2 then V3.zero else e.1,e.2)
def eaGo(F:EOps)(p:V3)(tk r:Int):V3×Bool :=
 let w:=eaW F p false
 let c:=eaCo F p r w
 let s:=eaSi F r w c
 V2b F tk r c.1 s.1 (eaUV F.o p w.1 s.2)
def N1b(F:EOps)(b:Bool)(a:V3×Int×Unit):V3×Bool :=
 let r:=F.vn b (a.1,())
 bif V2c F a.2.1 r.1 r.2 then (V3.zero,true) else eaGo F a.1 a.2.1 r.1
section
variable {F:EOps} (hG:GamOk Tryz.prog (eF F).gam)
include hG
theorem Y4x(tk c s u v ra:Int)(T:Nat→Int)(z:EZ×Bool):A0b Tryz.prog 247 eaB (eaI tk c s u v T ra 1 z.1 z.2) .normal (eaI tk c s u v T ra 2 (C0b F.o F.nm u v tk T ra 0 z).1 (C0b F.o F.nm u v tk T ra 0 z).2):=A0c hG (Z4d F tk c s u v ra T z.1 z.2) rfl (Y3a ..) rfl
theorem Y4y(tk c s u v ra:Int)(T:Nat→Int)(z:EZ×Bool):A0b Tryz.prog 247 eaB (eaI tk c s u v T ra 2 z.1 z.2) .normal (eaI tk c s u v T ra 3 (C0b F.o F.nm u v tk T ra 1 z).1 (C0b F.o F.nm u v tk T ra 1 z).2):=A0c hG (Z4e F tk c s u v ra T z.1 z.2) rfl (Y3b ..) rfl
theorem Y4z(tk c s u v ra:Int)(T:Nat→Int)(z:EZ×Bool):A0b Tryz.prog 247 eaB (eaI tk c s u v T ra 3 z.1 z.2) .normal (eaI tk c s u v T ra 4 (C0b F.o F.nm u v tk T ra 2 z).1 (C0b F.o F.nm u v tk T ra 2 z).2):=A0c hG (Z4g F tk c s u v ra T z.1 z.2) rfl (Y3c ..) rfl
theorem Z4a(tk c s u v ra:Int)(T:Nat→Int)(z:EZ×Bool):A0b Tryz.prog 247 eaB (eaI tk c s u v T ra 4 z.1 z.2) .normal (eaI tk c s u v T ra 5 (C0b F.o F.nm u v tk T ra 3 z).1 (C0b F.o F.nm u v tk T ra 3 z).2):=A0c hG (Z4h F tk c s u v ra T z.1 z.2) rfl (Y3d ..) rfl
theorem Z4b(tk c s u v ra:Int)(T:Nat→Int)(z:EZ×Bool):A0b Tryz.prog 247 eaB (eaI tk c s u v T ra 5 z.1 z.2) .normal (eaI tk c s u v T ra 6 (C0b F.o F.nm u v tk T ra 4 z).1 (C0b F.o F.nm u v tk T ra 4 z).2):=A0c hG (Z4j F tk c s u v ra T z.1 z.2) rfl (Y3e ..) rfl
theorem Z4c(tk c s u v ra:Int)(T:Nat→Int)(z:EZ×Bool):A0b Tryz.prog 247 eaB (eaI tk c s u v T ra 6 z.1 z.2) .normal (eaI tk c s u v T ra 7 (C0b F.o F.nm u v tk T ra 5 z).1 (C0b F.o F.nm u v tk T ra 5 z).2):=A0c hG (Z4k F tk c s u v ra T z.1 z.2) rfl (B3t ..) rfl
theorem ea_x(tk c s u v ra:Int)(T:Nat→Int)(z:EZ×Bool):A0b Tryz.prog 247 eaB (eaI tk c s u v T ra 7 z.1 z.2) (.exit 0) (eaI tk c s u v T ra 7 z.1 z.2):=A0c hG (Y4w F tk c s u v ra T z.1 z.2) rfl (B3t ..) rfl
theorem G3d(tk c s u v ra:Int)(T:Nat→Int)(z:EZ)(f:Bool):A0b Tryz.prog 247 (.block 0 (.loop eaB)) (eaI tk c s u v T ra 1 z f) .normal (eaI tk c s u v T ra 7 (A0k (C0b F.o F.nm u v tk T ra) 0 6 (z,f)).1 (A0k (C0b F.o F.nm u v tk T ra) 0 6 (z,f)).2) :=
 A0b.rounds (P:=Tryz.prog) (N:=247) (c:=eaB) (id:=0) 6 (fun k z=>eaI tk c s u v T ra (k+1) z.1 z.2) (fun z=>eaI tk c s u v T ra 7 z.1 z.2) (C0b F.o F.nm u v tk T ra)
  (fun k z hk=>D0w (p:=fun k=>∀z:EZ×Bool,A0b Tryz.prog 247 eaB (eaI tk c s u v T ra (k+1) z.1 z.2) .normal (eaI tk c s u v T ra (k+1+1) (C0b F.o F.nm u v tk T ra k z).1 (C0b F.o F.nm u v tk T ra k z).2)) (Y4x hG tk c s u v ra T) (Y4y hG tk c s u v ra T) (Y4z hG tk c s u v ra T) (Z4a hG tk c s u v ra T) (Z4b hG tk c s u v ra T) (Z4c hG tk c s u v ra T) k hk z)
  (fun z=>ea_x hG tk c s u v ra T z) (z,f)
theorem Y3p(tk c s u v ra:Int)(T:Nat→Int)(z:EZ×Bool):A0b Tryz.prog 247 (eaR 12) (eaI tk c s u v T ra 7 z.1 z.2) .ret (eaZ (bif (J1c F.o c s u v z).2 then V3.zero else (J1c F.o c s u v z).1) (J1c F.o c s u v z).2 (4096+3*2^180)):=by
 have h:=Y4v F tk c s u v ra T z.1 z.2
 refine A0c hG (h.trans ?_) rfl (Y4g ..) rfl
 cases (J1c F.o c s u v z).2<;>rfl
theorem Y3q(p:V3)(tk r w c s:Int)(f:Bool):A0b Tryz.prog 247 (.seq (eaL 6) (.seq (eaL 7) (.seq (eaL 8) (.seq (eaL 9) (.seq (eaL 10) (.seq (.seq (seqL (eaL 11)) (.block 0 (.loop eaB))) (eaR 12))))))) (eaS7 p tk r w c s f) .ret (eaZ (V2b F tk r c s (eaUV F.o p w f)).1 (V2b F tk r c s (eaUV F.o p w f)).2 (4096+3*2^180)):=by
 have h6:A0b Tryz.prog 247 (eaL 6) (eaS7 p tk r w c s f) .normal (eaS8 tk r c s (eaUV F.o p w f).1.u (eaUV F.o p w f).1.v (eaUV F.o p w f).2):=by
  refine A0a hG ((Y4q F p tk r w c s f).trans ?_)
  unfold eaUV
  cases decide (w≥1048576)<;>rfl
 refine h6.seq ?_
 generalize eaUV F.o p w f=x
 obtain ⟨⟨u,v⟩,g⟩:=x
 unfold V2b
 dsimp only
 have h7:=A2a hG (Y4r F tk r c s u v g)
 generalize F.te g (c,s,())=T at h7 ⊢
 have h8:=A0a hG (Y4t F tk r c s u v T.1 T.2)
 have h9:=A0a hG (Y4u F tk r c s u v T.1 T.2)
 generalize F.o.div T.2 7005208482886 r=ra at h9 ⊢
 have h10:=A0a hG (Y3r F tk c s u v ra.1 T.1 ra.2)
 generalize F.o.mul ra.2 ra.1 ra.1=q at h10 ⊢
 have h11:=A0a hG (Y3t F tk c s u v ra.1 T.1 q.2 q.1)
 have h12:=G3d hG tk c s u v ra.1 T.1 ⟨q.1,0,0,0,0,0⟩ q.2
 exact h7.seq (h8.seq (h9.seq (h10.seq ((h11.seq h12).seq (Y3p hG tk c s u v ra.1 T.1 _)))))
theorem Y4h(p:V3)(tk r:Int):A0b Tryz.prog 247 (.seq (eaL 4) (.seq (eaL 5) (.seq (eaL 6) (.seq (eaL 7) (.seq (eaL 8) (.seq (eaL 9) (.seq (eaL 10) (.seq (.seq (seqL (eaL 11)) (.block 0 (.loop eaB))) (eaR 12))))))))) (eaS1 p tk r false) .ret (eaZ (eaGo F p tk r).1 (eaGo F p tk r).2 (4096+3*2^180)):=by
 have h4:=A0a hG (Y4n F p tk r false)
 unfold eaGo
 dsimp only
 generalize eaW F p false=w at h4 ⊢
 exact h4.seq ((A0a hG (Y4p F p tk r w.1 w.2)).seq (Y3q hG p tk r w.1 _ _ _))
theorem G3e(b:Bool)(p:V3)(tk:Int):∃lo,A0b Tryz.prog 247 (.seq (eaL 0) (.seq (eaL 1) (.seq (eaL 2) (.seq (eaL 3) (.seq (eaL 4) (.seq (eaL 5) (.seq (eaL 6) (.seq (eaL 7) (.seq (eaL 8) (.seq (eaL 9) (.seq (eaL 10) (.seq (.seq (seqL (eaL 11)) (.block 0 (.loop eaB))) (eaR 12))))))))))))) (B0t 247 [.ptr 0 0,.val (Cod.enc p),.val (.int .i64 tk)] (row 57 b)) .ret (eaZ (N1b F b (p,tk,())).1 (N1b F b (p,tk,())).2 lo):=by
 have h0:=A0a hG (Y4j F p tk b)
 have h1:=A0a hG (Y4k F p tk b)
 unfold N1b
 dsimp only
 generalize F.vn b (p,())=r at h1 ⊢
 have h2:A0b Tryz.prog 247 (eaL 2) (eaS1 p tk r.1 r.2) .normal (eaS1 p tk r.1 (V2c F tk r.1 r.2)):=by
  refine A0a hG ((Y4m F p tk r.1 r.2).trans ?_)
  unfold V2c
  cases F.rt (tk,())<;>cases decide (r.1<6597069766656)<;>cases decide (r.1>10995116277760)<;>rfl
 cases hp:V2c F tk r.1 r.2 with
 | true =>
  rw[hp]at h2
  exact ⟨_,h0.seq (h1.seq (h2.seq (A0b.seqR (A0a hG (Y3v F p tk r.1)))))⟩
 | false =>
  rw[hp]at h2
  exact ⟨_,h0.seq (h1.seq (h2.seq ((A0a hG (Y3u F p tk r.1)).seq (Y4h hG p tk r.1))))⟩
end
theorem Y3w(p:V3)(f:Bool)(lo:Nat):resA Tryz.prog (eaZ p f lo) Tryz.f221.results.toList=some [.val (Cod.enc p)]:=by kernel_rfl
theorem N3d{F:EOps}(hG:GamOk Tryz.prog (eF F).gam):A0h Tryz.prog 221 (S 57 (N1b F)):=by
 intro args cs r cs' h
 obtain ⟨b,a,rfl,rfl,rfl,rfl⟩:=C2y h
 obtain ⟨p,tk,u⟩:=a
 obtain ⟨lo,hr⟩:=G3e hG b p tk
 refine E0k G3p X3z Y3g (by show 3≤247;omega) (by simp[row]) rfl rfl rfl (.inr rfl) hr (Y3w ..) rfl rfl (fun b' c hb=>?_) rfl rfl
 match b',hb with
 | 0,hb=>cases hb;rfl
 | n+1,hb=>simp[row]at hb
structure T2z where
 o:Ops
 sn:Bool→Int×Unit→Int×Bool
 cs:Bool→Int×Unit→Int×Bool
 tn:Bool→Int×Unit→Int×Bool
 ea:Bool→V3×Int×Unit→V3×Bool
def sky0(F:T2z)(b:Bool)(p:V3)(tk:Int):V3×Bool :=
 let o:=F.o
 let q:=F.tn b (tk,())
 let c:=F.cs q.2 (q.1,())
 let s:=F.sn c.2 (q.1,())
 let x1:=o.mul s.2 p.x c.1
 let x2:=o.mul x1.2 p.y s.1
 let x:=o.add x2.2 x1.1 x2.1
 let y1:=o.mul x.2 p.y c.1
 let y2:=o.mul y1.2 p.x s.1
 let y:=o.sub y2.2 y1.1 y2.1
 let e:=F.ea y.2 (⟨x.1,y.1,p.z⟩,tk,())
 let u1:=o.mul e.2 e.1.x c.1
 let u2:=o.mul u1.2 e.1.y s.1
 let u:=o.sub u2.2 u1.1 u2.1
 let v1:=o.mul u.2 e.1.y c.1
 let v2:=o.mul v1.2 e.1.x s.1
 let v:=o.add v2.2 v1.1 v2.1
 (⟨u.1,v.1,e.1.z⟩,v.2)
def EF:EOps:={o:=opsF,vn:=E0t opsF,rt:=fun p=>A0z p.1,te:=C1y opsF,nm:=numV}
theorem EF_o:EF.o=opsF:=by simp only[EF]
theorem V4e:EF.vn=E0t opsF:=by simp only[EF]
theorem V4c:EF.rt=fun p=>A0z p.1:=by simp only[EF]
theorem V4d:EF.te=C1y opsF:=by simp only[EF]
theorem V4b:EF.nm=numV:=by simp only[EF]
def E2j:Bool→V3×Int×Unit→V3×Bool:=N1b EF
theorem B5v:GamOk Tryz.prog (eF EF).gam:=by
 show GamOk Tryz.prog ((137,S 57 EF.vn) :: (87,S0 EF.rt) :: (245,Z1d EF.te) :: (246,Sc 57 Q1e EF.nm) :: gamN EF.o)
 rw[EF_o,V4e,V4c,V4d,V4b]
 exact .cons ok66 (.cons ok40 (.cons (N3t A0u) (.cons X2v A0u)))
theorem X2q:A0h Tryz.prog 221 (S 57 E2j):=N3d B5v
def skyF:T2z:={o:=opsF,sn:=sinV,cs:=cosV,tn:=T2q opsF (E0r opsF),ea:=E2j}
theorem P4a:skyF.o=opsF:=by simp only[skyF]
theorem R3c:skyF.sn=sinV:=by simp only[skyF]
theorem R3a:skyF.cs=cosV:=by simp only[skyF]
theorem R3d:skyF.tn=T2q opsF (E0r opsF):=by simp only[skyF]
theorem R3b:skyF.ea=E2j:=by simp only[skyF]
def G2y(F:T2z):Gam:=(220,S 57 F.tn) :: (221,S 57 F.ea) :: gamS F.o F.sn F.cs
theorem Q3z(F:T2z)(b:Bool)(p:V3)(tk:Int):fnSum Tryz.prog {gam:=G2y F} [] 20 170 [.ptr 0 0,.val (Cod.enc p),.val (.int .i64 tk)] (row 57 b)=snT 57 (sky0 F b p tk):=by kernel_rfl
theorem G2z:GamOk Tryz.prog (G2y skyF):=by
 unfold G2y
 rw[P4a,R3c,R3a,R3d,R3b]
 exact .cons ok54 (.cons X2q A1e)
def skyV(b:Bool)(p:V3×Int×Unit):V3×Bool:=P0d (sky0 skyF b p.1 p.2.1)
theorem J5y:A0h Tryz.prog 170 (S 57 skyV):=S_ok G2z 20 fun b a=>(Q3z skyF b a.1 a.2.1).trans (D3c ..)
structure Tl where
 tk:Int
 mode:Int
 faults:Int
 ack:Int
 err:Int
 rej:Int
 q:V4
 d:V3
instance:Cod Tl where
 enc t:=.agg #[.int .i64 t.tk,.int .i64 t.mode,.int .i64 t.faults,.int .i64 t.ack,.int .i64 t.err,.int .i64 t.rej,.int .i64 t.q.w,.int .i64 t.q.x,.int .i64 t.q.y,.int .i64 t.q.z,.int .i64 t.d.x,.int .i64 t.d.y,.int .i64 t.d.z]
 dec v:=match v with | .agg ⟨[.int .i64 a,.int .i64 b,.int .i64 c,.int .i64 d,.int .i64 e,.int .i64 f,.int .i64 g,.int .i64 h,.int .i64 i,.int .i64 j,.int .i64 k,.int .i64 l,.int .i64 m]⟩=>some ⟨a,b,c,d,e,f,⟨g,h,i,j⟩,⟨k,l,m⟩⟩ | _=>none
 law v a h:=by split at h<;>simp_all;subst h;simp
theorem r230(rt:Int×Unit→Bool)(a b c d e f g h i j k l m:Int):fnSum Tryz.prog {gam:=[(87,S0 rt)]} [] 20 230 [.val (.agg #[.int .i64 a,.int .i64 b,.int .i64 c,.int .i64 d,.int .i64 e,.int .i64 f,.int .i64 g,.int .i64 h,.int .i64 i,.int .i64 j,.int .i64 k,.int .i64 l,.int .i64 m])] []=(bif g != IntKind.i64.wrap (IntKind.i16.wrap g) then some (AV.val (Value.bool false),[]) else bif h != IntKind.i64.wrap (IntKind.i16.wrap h) then some (AV.val (Value.bool false),[]) else bif i != IntKind.i64.wrap (IntKind.i16.wrap i) then some (AV.val (Value.bool false),[]) else bif j != IntKind.i64.wrap (IntKind.i16.wrap j) then some (AV.val (Value.bool false),[]) else bif k != IntKind.i64.wrap (IntKind.i16.wrap k) then some (AV.val (Value.bool false),[]) else bif l != IntKind.i64.wrap (IntKind.i16.wrap l) then some (AV.val (Value.bool false),[]) else bif m != IntKind.i64.wrap (IntKind.i16.wrap m) then some (AV.val (Value.bool false),[]) else bif d != IntKind.i64.wrap (IntKind.u8.wrap d) then some (AV.val (Value.bool false),[]) else bif e != IntKind.i64.wrap (IntKind.u8.wrap e) then some (AV.val (Value.bool false),[]) else bif rt (a,()) then bif bif true then decide (b≥0) else false then bif bif true then decide (b≤3) else false then bif bif true then decide (c≥0) else false then bif bif true then decide (c≤15) else false then some (AV.val (Value.bool (bif true then f==IntKind.i64.wrap (IntKind.u16.wrap f) else false)),[]) else some (AV.val (Value.bool false),[]) else some (AV.val (Value.bool false),[]) else some (AV.val (Value.bool false),[]) else some (AV.val (Value.bool false),[]) else some (AV.val (Value.bool false),[])):=by kernel_rfl
def N0b(x:Int):Bool:=x==IntKind.i64.wrap (IntKind.i16.wrap x)
def tlOk(rt:Int×Unit→Bool)(t:Tl):Bool:=N0b t.q.w&&(N0b t.q.x&&(N0b t.q.y&&(N0b t.q.z&&(N0b t.d.x&&(N0b t.d.y&&(N0b t.d.z&&((t.ack==IntKind.i64.wrap (IntKind.u8.wrap t.ack))&&((t.err==IntKind.i64.wrap (IntKind.u8.wrap t.err)) &&
 (rt (t.tk,())&&(decide (t.mode≥0)&&(decide (t.mode≤3)&&(decide (t.faults≥0)&&(decide (t.faults≤15)&&(t.rej==IntKind.i64.wrap (IntKind.u16.wrap t.rej)))))))))))))))
theorem Y2y(rt:Int×Unit→Bool)(t:Tl):fnSum Tryz.prog {gam:=[(87,S0 rt)]} [] 20 230 [.val (Cod.enc t)] []=some (.val (.bool (tlOk rt t)),[]):=by
 refine (r230 rt t.tk t.mode t.faults t.ack t.err t.rej t.q.w t.q.x t.q.y t.q.z t.d.x t.d.y t.d.z).trans ?_
 simp only[cond_false,cond_true,P3p,Y2n,bne,Bool.not_not]
 rfl
def E0m(t:Tl):Bool:=tlOk (fun p=>A0z p.1) t
theorem P1q:A0h Tryz.prog 230 (S0 fun (p:Tl×Unit)=>E0m p.1):=H0n (E:={gam:=[(87,S0 fun (p:Int×Unit)=>A0z p.1)]}) (.cons ok40 .nil) 20 fun a=>Y2y _ a.1
def cnt0(pt:Bool→Int×Int×Int×Unit→Int×Bool)(q:V4)(v:V3):Two V4 V3×Bool :=
 let a:=pt false (q.w,1,67108864,())
 let b:=pt a.2 (q.x,1,67108864,())
 let c:=pt b.2 (q.y,1,67108864,())
 let d:=pt c.2 (q.z,1,67108864,())
 let x:=pt d.2 (v.x,10000,1099511627776,())
 let y:=pt x.2 (v.y,10000,1099511627776,())
 let z:=pt y.2 (v.z,10000,1099511627776,())
 (⟨⟨a.1,b.1,c.1,d.1⟩,⟨x.1,y.1,z.1⟩⟩,z.2)
def T1e(c:Two V4 V3):Tl:=⟨0,0,0,0,0,0,c.a,c.b⟩
theorem E2b(rg:Tl×Unit→Bool)(pt:Bool→Int×Int×Int×Unit→Int×Bool)(q:V4)(v:V3):fnSum Tryz.prog {gam:=[(230,S0 rg),(65,S 57 pt)]} [] 20 176 [.val (Cod.enc q),.val (Cod.enc v)] [] =
  bif (cnt0 pt q v).2 then some (.val (Cod.enc (Two.mk V4.zero V3.zero)),[]) else bif !rg (T1e (cnt0 pt q v).1,()) then some (.val (Cod.enc (Two.mk V4.zero V3.zero)),[]) else some (.val (Cod.enc (cnt0 pt q v).1),[]):=by kernel_rfl
def T1g(rg:Tl×Unit→Bool)(pt:Bool→Int×Int×Int×Unit→Int×Bool)(p:V4×V3×Unit):Two V4 V3:=bif (cnt0 pt p.1 p.2.1).2 then ⟨V4.zero,V3.zero⟩ else bif !rg (T1e (cnt0 pt p.1 p.2.1).1,()) then ⟨V4.zero,V3.zero⟩ else (cnt0 pt p.1 p.2.1).1
def E0w:V4×V3×Unit→Two V4 V3:=T1g (fun p=>E0m p.1) (op3 G0m)
theorem Z1r(c d:Bool)(x y:Two V4 V3):(bif c then some (AV.val (Cod.enc x),([]:List Con)) else bif d then some (.val (Cod.enc x),[]) else some (.val (Cod.enc y),[]))=some (.val (Cod.enc (bif c then x else bif d then x else y)),[]):=by cases c<;>cases d<;>rfl
theorem X2p:A0h Tryz.prog 176 (S0 E0w):=H0n (E:={gam:=[(230,S0 fun (p:Tl×Unit)=>E0m p.1),(65,S 57 (op3 G0m))]}) (.cons P1q (.cons M2z .nil)) 20 fun a=>(E2b _ _ a.1 a.2.1).trans (Z1r ..)
end Go.Ab
namespace Go.Ab
open Go
section
variable {P:Program} {N:Nat} {ops:Array Oper} {Q:Exit→Act→World→Prop} {F:Nat→Prop} {w0:World} {s:St} {a:Act} {w:World}
theorem Here.move{σ:Nat→Option Nat}(h:Here N s σ a w){w':World}(hgrow:w.heap.size≤w'.heap.size)(hsame:∀b r,σ b=some r→w'.heap[r]?=w.heap[r]?):Here N s σ a w':=by
 obtain ⟨⟨u,hf,hs⟩,hn⟩:=h
 refine ⟨⟨u,{hf with row:=fun b e cs hb=>?_,obj:=fun b o hb=>?_,bound:=fun b r hb=>Nat.lt_of_lt_of_le (hf.bound b r hb) hgrow,ownsR:=fun b _ _ _ _ hr=>.inl ⟨b,hr⟩,ownsO:=fun b _ _ _ hr=>.inl ⟨b,hr⟩,os:=rfl,tape:=rfl,output:=rfl,grown:=Nat.le_refl _,frame:=fun _ _ _=>rfl},hs⟩,hn⟩
 ·obtain ⟨r,vs,h1,h2,h3⟩:=hf.row b e cs hb
  exact ⟨r,vs,h1,by rw[hsame b r h1];exact h2,h3⟩
 ·obtain ⟨r,o',h1,h2,h3⟩:=hf.obj b o hb
  exact ⟨r,o',h1,by rw[hsame b r h1];exact h2,h3⟩
theorem Here.put{σ:Nat→Option Nat}(h:Here N s σ a w){d:Nat}(hd:d<N)(hlen:s.tmps.length=N){v:AV}{x:Value}(hv:Rel σ v x):Here N {s with tmps:=s.tmps.set d v} σ (a.put (some d) x) w:=by
 obtain ⟨⟨u,hf,hs⟩,hn⟩:=h
 refine ⟨⟨upd1 u (.tmp d) (.av v),hf.put hd hv,fun l c h=>?_⟩,hn⟩
 cases l with
 | blk b=>simpa[upd1]using hs (.blk b) c h
 | tmp t =>
  by_cases e:t=d
  ·subst e
   simp only[St.u,stU,List.getElem?_set_self (by omega:t<s.tmps.length),Option.map_some,Option.some.injEq]at h
   subst h
   simp[upd1]
  ·simp only[St.u,stU,List.getElem?_set_ne (Ne.symm e)]at h
   have:upd1 u (.tmp d) (.av v) (.tmp t)=u (.tmp t):=by simp[upd1,e]
   rw[this]
   exact hs _ _ h
def Wide(F:Nat→Prop)(w w':World):Nat→Prop:=fun j=>F j∨(w.heap.size≤j∧j<w'.heap.size)
theorem A0t.moved(h:A0t F w0 N s a w){w':World}(hgrow:w.heap.size≤w'.heap.size)(hsame:∀j,j<w.heap.size→¬ F j→w'.heap[j]?=w.heap[j]?):A0t (Wide F w w') w' N s a w':=by
 obtain ⟨σ,h1,hk,hF⟩:=h
 have hb:∀b r,σ b=some r→r<w.heap.size:=by
  obtain ⟨⟨u,hf,_⟩,_⟩:=h1
  exact hf.bound
 refine ⟨σ,h1.move hgrow fun b r hr=>hsame r (hb b r hr) (hF b r hr),Keep.refl fun k hk'=>?_,fun b r hr hW=>?_⟩
 ·rcases hk' with h2 | h2
  ·exact Nat.lt_of_lt_of_le (hk.lt h2) hgrow
  ·exact h2.2
 ·rcases hW with h2 | h2
  ·exact hF b r hr h2
  ·have :=hb b r hr;omega
theorem A0t.put(h:A0t F w0 N s a w){d:Nat}(hd:d<N)(hlen:s.tmps.length=N)(v:Value):A0t F w0 N {s with tmps:=s.tmps.set d (.val v)} (a.put (some d) v) w:=by
 obtain ⟨σ,h1,h2,h3⟩:=h
 exact ⟨σ,h1.put hd hlen (by simp only[Rel]),h2,h3⟩
theorem K1v{k d:Nat}{op:Op}(hs:B0a ops k=some (op,some d,true))(hd:d<N)(hlen:s.tmps.length=N)(hh:A0t F w0 N s a w){v:Value}{w':World}
  (hrun:∀o:Oper,o.op=op→(execOp a.eval o).run P w=.ok (.value v) w') (hgrow:w.heap.size≤w'.heap.size) (hsame:∀j,j<w.heap.size→¬ F j→w'.heap[j]?=w.heap[j]?) (rest:List Nat)
  (hK:∀a',A0t (Wide F w w') w' N {s with tmps:=s.tmps.set d (.val v)} a' w'→wpOps P ops Q rest a' w'):wpOps P ops Q (k :: rest) a w:=by
 obtain ⟨o,ho,hop,hdst,hg⟩:=D0n hs
 rw[wpOps_cons]
 unfold wpOp
 rw[ho]
 simp only
 rw[if_pos (by simp[Region.wanted,hg])]
 refine .inl ?_
 unfold Oper.wp
 rw[hrun o hop,Oper.upon_value,hdst]
 exact hK _ ((hh.moved hgrow hsame).put hd hlen v)
theorem X0e{k d:Nat}{op:Op}(hs:B0a ops k=some (op,some d,true))(hd:d<N)(hlen:s.tmps.length=N)(hh:A0t F w0 N s a w){v:Value}
  (hrun:∀o:Oper,o.op=op→(execOp a.eval o).run P w=.ok (.value v) w) (rest:List Nat)
  (hK:∀a',A0t F w0 N {s with tmps:=s.tmps.set d (.val v)} a' w→wpOps P ops Q rest a' w):wpOps P ops Q (k :: rest) a w:=by
 obtain ⟨o,ho,hop,hdst,hg⟩:=D0n hs
 exact V0d ho hg hdst hd hlen hh (hrun o hop) rest hK
theorem E1g {k d f : Nat} {c : Call} {fn : Func} (hs : B0a ops k = some (.call c, some d, true)) (hd : d < N) (hlen : s.tmps.length = N) (hh : A0t F w0 N s a w) (hcal : c.callee = .value (.func f)) (hfn : P.funcs[f]? = some fn) (hb : (fn.body.isSome && !fn.name == "runtime.NumGoroutine") = true)
  {args:Array Value} (hargs:c.args.map a.eval=args) {X:Value→World→Prop} (hc:Calls P f args w fun e w'=>∃v,e=.returned v∧RowKit.Below w.heap.size w w'∧X v w') (rest:List Nat)
  (hK:∀v a' w',X v w'→RowKit.Below w.heap.size w w'→A0t (Wide F w w') w' N {s with tmps:=s.tmps.set d (.val v)} a' w'→wpOps P ops Q rest a' w'):wpOps P ops Q (k :: rest) a w:=by
 obtain ⟨o,ho,hop,hdst,hg⟩:=D0n hs
 rw[wpOps_cons]
 unfold wpOp
 rw[ho]
 simp only
 rw[if_pos (by simp[Region.wanted,hg])]
 refine .inl ?_
 unfold Oper.wp
 have hexec:(execOp a.eval o).run P w=.ok (.enter f args) w:=by
  have e:a.eval (.func f)=.func (.func f) #[] #[]:=rfl
  simp only[execOp,hop,resolve,hcal,e,Deferred.ofValue,Sem.run_bind,Sem.run_pure,Result.andThen_ok,invoke,Q0j hfn hb,hargs,Array.empty_append,Array.append_empty]
 rw[hexec]
 simp only[Oper.upon]
 refine Calls.mono hc fun e w' he=>?_
 obtain ⟨v,rfl,h1,h2⟩:=he
 simp only
 rw[hdst]
 exact hK v _ w' h2 h1 ((hh.moved h1.size fun j hj _=>h1.block j hj).put hd hlen v)
theorem X1x{H:Hp}{b:Nat}{c:Con}{s:St}(hs:s.heap=H)(h:hget H b=some c):s.u (.blk b)=some c:=by subst hs;exact h
theorem P2c{k d:Nat}{t elem:TypeId}{n:Nat}{x ix:Nat}{ti:TypeInfo}(hs:B0a ops k=some (.indexAddr t (.tmp x) (.tmp ix),some d,true))(hd:d<N)(hlen:s.tmps.length=N)(hu:P.underlying t=some (.array n elem))(hi:P.info? elem=some ti)(h1:ti.size=1)
  (hh:A0t F w0 N s a w) {b j:Nat} {ik:IntKind} (hx:s.tmps[x]?=some (.ptr b 0)) (hix:s.tmps[ix]?=some (.val (.int ik j))) (hlt:j<n) (rest:List Nat)
  (hK:∀a',A0t F w0 N {s with tmps:=s.tmps.set d (.ptr b j)} a' w→wpOps P ops Q rest a' w):wpOps P ops Q (k :: rest) a w:=by
 have hjx:=hh.eval hix
 obtain ⟨o,ho,hop,hdst,hg⟩:=D0n hs
 obtain ⟨σ,h2,h3,h4⟩:=hh
 obtain ⟨y,hy,hrel⟩:=h2.tmp hx
 simp only[Rel]at hrel
 obtain ⟨r,hr,rfl⟩:=hrel
 rw[wpOps_cons]
 unfold wpOp
 rw[ho]
 simp only
 rw[if_pos (by simp[Region.wanted,hg])]
 refine .inl ?_
 unfold Oper.wp
 have hxe:a.eval (.tmp x)=.pointer (some ⟨r,0,none⟩):=by simp[Act.eval,hy]
 have hb:0≤(j:Int)∧(j:Int)<(n:Int):=by omega
 have hrun:(execOp a.eval o).run P w=.ok (.value (.pointer (some ⟨r,j,none⟩))) w:=by
  simp only[execOp,hop,Instr.indexAt,hjx,asIntOf,Sem.run_bind,run_underlying hu,Result.andThen_ok,hxe,Instr.sureAddr,Sem.run_pure,Sem.run_ite,if_pos hb,B0q hi,Int.toNat_natCast,h1,Nat.mul_one,G0a,Nat.zero_add]
 rw[hrun,Oper.upon_value,hdst]
 exact hK _ ⟨σ,h2.put hd hlen (by simp only[Rel];exact ⟨r,hr,rfl⟩),h3,h4⟩
theorem Y2h{k d:Nat}{t:TypeId}{x:Nat}{td:TypeDesc}(hs:B0a ops k=some (.load t (.tmp x),some d,true))(hd:d<N)(hlen:s.tmps.length=N)(hu:P.underlying t=some td)(hag:R0n td=false)
  (hh:A0t F w0 N s a w) {b j e:Nat} {cs:List AV} {v:Value} (hx:s.tmps[x]?=some (.ptr b j)) (hrow:hget s.heap b=some (.row e cs)) (hv:cs[j]?=some (.val v)) (rest:List Nat)
  (hK:∀a',A0t F w0 N {s with tmps:=s.tmps.set d (.val v)} a' w→wpOps P ops Q rest a' w):wpOps P ops Q (k :: rest) a w:=by
 obtain ⟨σ,h2,h3,h4⟩:=hh
 obtain ⟨y,hy,hrel⟩:=h2.tmp hx
 simp only[Rel]at hrel
 obtain ⟨r,hr,rfl⟩:=hrel
 have hxe:a.eval (.tmp x)=.pointer (some ⟨r,j,none⟩):=by simp[Act.eval,hy]
 have hcell:w.cell? ⟨r,j,none⟩=some v:=by
  obtain ⟨⟨u,hf,hsub⟩,_⟩:=h2
  obtain ⟨r',vs,h5,h6,h7⟩:=hf.row b e cs (hsub _ _ (X1x rfl hrow))
  rw[hr]at h5
  cases h5
  obtain ⟨z,hz,hzr⟩:=Rels.get h7 hv
  simp only[Rel]at hzr
  subst hzr
  simp[World.cell?,h6,hz]
 refine G1a hs hd hlen ⟨σ,h2,h3,h4⟩ hxe (M0b hu hag hcell) rest hK
end
end Go.Ab
namespace Go.Ab
theorem C0k(z:Int):IntKind.i64.wrap z=(z+9223372036854775808) % 18446744073709551616-9223372036854775808:=by
 have:IntKind.i64.wrap z=if z % 18446744073709551616≥9223372036854775808 then z % 18446744073709551616-18446744073709551616 else z % 18446744073709551616:=by
  simp[IntKind.wrap,IntKind.bits,IntKind.signed]
 rw[this]
 split<;>omega
end Go.Ab
namespace Go.Ab
open Go
def xorV(k:IntKind)(a b:Int):Int:=k.wrap ↑(BitVec.ofInt k.bits a ^^^ BitVec.ofInt k.bits b).toNat
theorem D1z(x:Nat):IntKind.u8.wrap (x:Int)=((x % 256:Nat):Int):=by
 simp[IntKind.wrap,IntKind.bits,IntKind.signed]
theorem Y0q(x:Nat):IntKind.u16.wrap (x:Int)=((x % 65536:Nat):Int):=by
 simp[IntKind.wrap,IntKind.bits,IntKind.signed]
theorem xor8{a b:Nat}(ha:a<256)(hb:b<256):xorV .u8 a b=((a ^^^ b:Nat):Int):=by
 have h:a ^^^ b<2^8:=Nat.xor_lt_two_pow (by omega) (by omega)
 have e:(BitVec.ofInt IntKind.u8.bits (a:Int) ^^^ BitVec.ofInt IntKind.u8.bits (b:Int)).toNat=a ^^^ b:=by
  show (BitVec.ofInt 8 (a:Int) ^^^ BitVec.ofInt 8 (b:Int)).toNat=_
  rw[BitVec.ofInt_natCast,BitVec.ofInt_natCast,BitVec.toNat_xor,BitVec.toNat_ofNat,BitVec.toNat_ofNat,Nat.mod_eq_of_lt (by omega),Nat.mod_eq_of_lt (by omega)]
 unfold xorV
 rw[e,D1z,Nat.mod_eq_of_lt (by omega)]
theorem V3e{a b:Nat}(ha:a<65536)(hb:b<65536):xorV .u16 a b=((a ^^^ b:Nat):Int):=by
 have h:a ^^^ b<2^16:=Nat.xor_lt_two_pow (by omega) (by omega)
 have e:(BitVec.ofInt IntKind.u16.bits (a:Int) ^^^ BitVec.ofInt IntKind.u16.bits (b:Int)).toNat=a ^^^ b:=by
  show (BitVec.ofInt 16 (a:Int) ^^^ BitVec.ofInt 16 (b:Int)).toNat=_
  rw[BitVec.ofInt_natCast,BitVec.ofInt_natCast,BitVec.toNat_xor,BitVec.toNat_ofNat,BitVec.toNat_ofNat,Nat.mod_eq_of_lt (by omega),Nat.mod_eq_of_lt (by omega)]
 unfold xorV
 rw[e,Y0q,Nat.mod_eq_of_lt (by omega)]
def sh1(r:Nat):Nat:=(r*2 % 65536) ^^^ (r / 32768*4129)
def sh8(r:Nat):Nat:=sh1 (sh1 (sh1 (sh1 (sh1 (sh1 (sh1 (sh1 r)))))))
theorem R0v{r:Nat}(h:r<65536):sh1 r<65536:=by
 unfold sh1
 have h2:r / 32768*4129<65536:=by
  have:r / 32768<2:=by omega
  omega
 exact Nat.xor_lt_two_pow (n:=16) (by omega) h2
theorem C3y{r:Nat}(h:r<65536):sh8 r<65536:=by
 unfold sh8
 exact R0v (R0v (R0v (R0v (R0v (R0v (R0v (R0v h)))))))
theorem G3a{a b:Nat}:(a ^^^ b) / 32768=(a / 32768) ^^^ (b / 32768):=by
 have e:∀x:Nat,x / 32768=x >>> 15:=fun x=>by rw[Nat.shiftRight_eq_div_pow]
 rw[e,e,e,Nat.shiftRight_xor_distrib]
theorem E3y{a b:Nat}:(a ^^^ b)*2 % 65536=(a*2 % 65536) ^^^ (b*2 % 65536):=by
 have e:∀x:Nat,x*2 % 65536=(x <<< 1) % 2^16:=fun x=>by rw[Nat.shiftLeft_eq]
 rw[e,e,e,Nat.shiftLeft_xor_distrib,Nat.xor_mod_two_pow]
theorem xor4(x y z v:Nat):(x ^^^ y) ^^^ (z ^^^ v)=(x ^^^ z) ^^^ (y ^^^ v):=by rw[Nat.xor_assoc,← Nat.xor_assoc y z v,Nat.xor_comm y z,Nat.xor_assoc z y v,← Nat.xor_assoc x z]
theorem W5j{r z y w:Nat}(h:r=z ^^^ y):r ^^^ w=z ^^^ (y ^^^ w):=by rw[h,Nat.xor_assoc]
theorem Q0p{a b:Nat}(ha:a<65536)(hb:b<65536):sh1 (a ^^^ b)=sh1 a ^^^ sh1 b:=by
 unfold sh1
 rw[G3a,E3y]
 have h1:a / 32768=0∨a / 32768=1:=by omega
 have h2:b / 32768=0∨b / 32768=1:=by omega
 have key:((a / 32768) ^^^ (b / 32768))*4129=(a / 32768*4129) ^^^ (b / 32768*4129):=by
  rcases h1 with h1 | h1<;>rcases h2 with h2 | h2<;>rw[h1,h2]<;>rfl
 rw[key]
 exact xor4 _ _ _ _
theorem Q3x{a b:Nat}(ha:a<65536)(hb:b<65536):sh8 (a ^^^ b)=sh8 a ^^^ sh8 b:=by
 unfold sh8
 have l1:∀{x:Nat},x<65536→sh1 x<65536:=R0v
 rw[Q0p ha hb,Q0p (l1 ha) (l1 hb),Q0p (l1 (l1 ha)) (l1 (l1 hb)),Q0p (l1 (l1 (l1 ha))) (l1 (l1 (l1 hb))),Q0p (l1 (l1 (l1 (l1 ha)))) (l1 (l1 (l1 (l1 hb)))),
  Q0p (l1 (l1 (l1 (l1 (l1 ha))))) (l1 (l1 (l1 (l1 (l1 hb))))),Q0p (l1 (l1 (l1 (l1 (l1 (l1 ha)))))) (l1 (l1 (l1 (l1 (l1 (l1 hb)))))),Q0p (l1 (l1 (l1 (l1 (l1 (l1 (l1 ha))))))) (l1 (l1 (l1 (l1 (l1 (l1 (l1 hb)))))))]
theorem Q3w:∀x:Fin 256,sh8 x.val=x.val*256:=by decide +kernel
def stT(r c:Nat):Nat:=(r*256 % 65536) ^^^ sh8 ((r / 256 ^^^ c)*256)
def stR(r c:Nat):Nat:=sh8 (r ^^^ (c*256))
theorem M5u{r c:Nat}(hr:r<65536)(hc:c<256):stT r c=stR r c:=by
 have e:r ^^^ (c*256)=(r % 256) ^^^ ((r / 256 ^^^ c)*256):=by
  have h1:r=(r % 256) ^^^ (r / 256*256):=by
   have h2:r % 256<2^8:=by omega
   have :=Nat.two_pow_add_eq_or_of_lt h2 (r / 256)
   apply Nat.eq_of_testBit_eq
   intro i
   rw[Nat.testBit_xor]
   have e1:r % 256=r % 2^8:=rfl
   have e2:r / 256*256=(r >>> 8) <<< 8:=by rw[Nat.shiftLeft_eq,Nat.shiftRight_eq_div_pow]
   rw[e1,e2,Nat.testBit_mod_two_pow,Nat.testBit_shiftLeft,Nat.testBit_shiftRight]
   by_cases hi:i<8
   ·simp[hi,show ¬ 8≤i by omega]
   ·simp[hi,show 8≤i by omega,show 8+(i-8)=i by omega]
  have h3:(r / 256 ^^^ c)*256=(r / 256*256) ^^^ (c*256):=by
   have e:∀x:Nat,x*256=x <<< 8:=fun x=>by rw[Nat.shiftLeft_eq]
   rw[e,e,e,Nat.shiftLeft_xor_distrib]
  rw[h3]
  exact W5j h1
 have hx:r / 256 ^^^ c<2^8:=Nat.xor_lt_two_pow (by omega) (by omega)
 unfold stT stR
 rw[e,Q3x (by omega) (by omega)]
 have :=Q3w ⟨r % 256,by omega⟩
 simp only at this
 rw[this]
 congr 1
 omega
theorem M5v{r c:Nat}(hr:r<65536)(hc:c<256):stR r c<65536:=by
 unfold stR
 exact C3y (Nat.xor_lt_two_pow (n:=16) (by omega) (by omega))
def crcF(l:List UInt8)(r:Nat):Nat:=l.foldl (fun r b=>stR r b.toNat) r
theorem W0g:∀(l:List UInt8) (r:Nat),r<65536→crcF l r<65536
 | [],r,h=>h
 | b :: l,r,h=>by
  unfold crcF
  rw[List.foldl_cons]
  exact W0g l _ (M5v h b.toNat_lt)
end Go.Ab
