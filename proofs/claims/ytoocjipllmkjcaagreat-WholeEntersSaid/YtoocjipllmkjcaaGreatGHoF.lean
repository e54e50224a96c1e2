/- A part of the proofs: lemmas, no statement of their own; no condition. -/
import Derived.Test.YtoocjipllmkjcaaGreatGEnB
import Derived.Deep.Slices
import Derived.Test.YtoocjipllmkjcaaGreatRows
set_option linter.unusedSimpArgs false
namespace Go.Ab
open Go Go.Proofs
theorem D2p{p:P2×P2×Unit}(h:(G0q false p).2=false):QU (G0q false p).1:=by
 revert h
 unfold G0q
 dsimp only
 cases (apart (H0r E0b) false (p.1.a,p.1.b,())).1 with
 | false=>intro h;cases h
 | true =>
  rw[Bool.not_true,cond_false]
  cases (apart (H0r E0b) (apart (H0r E0b) false (p.1.a,p.1.b,())).2 (p.2.1.a,p.2.1.b,())).1 with
  | false=>intro h;cases h
  | true =>
   rw[Bool.not_true,cond_false]
   unfold H1w
   exact T1u
theorem L1v{q:V4}(h:QU q):GsIn (H1h (q,())):=⟨h,by show (17179869184:Int)+17179869184+17179869184≤274877906944;decide,rfl,rfl⟩
theorem K1h{p:Pl}{s:Sn}(h:(H0v p s).mode=2)(hp:p.mode=2):s.gap=false∧s.bad=false:=by
 revert h
 unfold H0v
 rw[hp]
 cases s.order==1 with
 | true=>intro h;exact absurd h (by show ¬ (3:Int)=2;omega)
 | false =>
 rw[cond_false,show ((2:Int)==3)=false from rfl,show ((2:Int)==0)=false from rfl,show ((2:Int)==1)=false from rfl,show ((2:Int)==2)=true from rfl,cond_false,cond_false,cond_false,cond_true]
 unfold G2d
 cases s.gap with
 | true=>intro h;exact absurd h (by show ¬ (1:Int)=2;omega)
 | false =>
 rw[cond_false]
 cases s.bad with
 | true=>intro h;exact absurd h (by show ¬ (1:Int)=2;omega)
 | false=>exact fun _=>⟨rfl,rfl⟩
theorem J1m{x:CX}(hm:(cstF ST x).2.1.plan.mode=2)(hg:(cstF ST x).1.seen.gap=false)(hb:(cstF ST x).1.seen.bad=false):GsIn (cstF ST x).2.1.guess:=by
 have hf:ST.fi=J0p:=rfl
 unfold cstF at hm hg hb ⊢
 rw[hf]at hm hg hb ⊢
 cases h2:x.2.1.plan.mode==2 with
 | true =>
  rw[h2,cond_true]at hm hg hb
  rw[cond_true]
  cases h3:x.1.seen.gap with
  | true =>
   rw[h3,Bool.not_true,cond_false]at hg
   rw[h3]at hg
   cases hg
  | false =>
   rw[h3,Bool.not_false,cond_true]at hb
   rw[Bool.not_false,cond_true]
   exact Z0z hb
 | false =>
  rw[h2,cond_false]at hm
  rw[hm]at h2
  cases h2
structure E1a(c:Crf):Prop where
 y:c.plan.mode=2→GsIn c.guess
 n:c.plan.mode≠2→c.guess=Gs.zero
theorem V1h{x:CX}(hx:x.2.1.plan.mode=2→x.1.seen.gap=false→x.1.seen.bad=false→GsIn x.2.1.guess):E1a (N0h x).2.1:=by
 unfold N0h P2g
 dsimp only
 cases h2:(H0v x.2.1.plan x.1.seen).mode==2 with
 | true =>
  rw[cond_true]
  have h2:(H0v x.2.1.plan x.1.seen).mode=2:=by simpa using h2
  have h2n:((H0v x.2.1.plan x.1.seen).mode != 2)=false:=by rw[h2];rfl
  cases hm:x.2.1.plan.mode != 2 with
  | true =>
   rw[cond_true]
   cases ha:(G0q false (x.1.sky,x.1.body,())).2 with
   | true=>exact ⟨fun h=>absurd h (by show ¬ (1:Int)=2;omega),fun _=>rfl⟩
   | false =>
    rw[cond_false,h2n,cond_false]
    exact ⟨fun _=>L1v (D2p ha),fun h=>absurd h2 h⟩
  | false =>
   rw[cond_false,h2n,cond_false]
   have hm:x.2.1.plan.mode=2:=by simpa using hm
   obtain ⟨g1,g2⟩:=K1h h2 hm
   exact ⟨fun _=>hx hm g1 g2,fun h=>absurd h2 h⟩
 | false =>
  rw[cond_false]
  have h2:¬ (H0v x.2.1.plan x.1.seen).mode=2:=by simpa using h2
  have h2n:((H0v x.2.1.plan x.1.seen).mode != 2)=true:=by simpa using h2
  rw[h2n,cond_true]
  exact ⟨fun h=>absurd h h2,fun _=>rfl⟩
theorem J1h(tk:Int)(x:CX):E1a (endX ST tk x).2.1:=by
 have h:=V1h (x:=cstF ST (ST.lk (cstD ST x))) fun h1 h2 h3=>J1m h1 h2 h3
 exact ⟨h.y,h.n⟩
theorem A2v{p:Pl}{s:Sn}(h:(H0v p s).mode=2)(hp:(p.mode==2)=false):p.mode=1∧s.gyro=true∧s.pair=true:=by
 revert h
 unfold H0v
 rw[hp]
 cases s.order==1 with
 | true=>intro h;exact absurd h (by show ¬ (3:Int)=2;omega)
 | false =>
 rw[cond_false]
 cases h3:p.mode==3 with
 | true =>
  rw[cond_true]
  have h3:p.mode=3:=by simpa using h3
  cases s.order==2 with
  | true=>intro h;exact absurd h (by show ¬ (0:Int)=2;omega)
  | false=>intro h;rw[cond_false]at h;omega
 | false =>
 rw[cond_false]
 cases h0:p.mode==0 with
 | true =>
  rw[cond_true]
  have h0:p.mode=0:=by simpa using h0
  dsimp only
  cases decide ((bif s.gyro&&s.slow then cntV p.calm else 0)≥3) with
  | true=>intro h;exact absurd h (by show ¬ (1:Int)=2;omega)
  | false=>intro h;have h:p.mode=2:=h;omega
 | false =>
 rw[cond_false]
 cases h1:p.mode==1 with
 | true =>
  rw[cond_true]
  have h1:p.mode=1:=by simpa using h1
  cases s.gap with
  | true=>intro h;exact absurd h (by show ¬ (1:Int)=2;omega)
  | false =>
  rw[cond_false]
  cases s.gyro with
  | false =>
   simp only[Bool.false_and,cond_false]
   intro h
   have h:p.mode=2:=h
   omega
  | true =>
  cases s.slow with
  | false=>intro h;exact absurd h (by show ¬ (0:Int)=2;omega)
  | true =>
  cases s.pair with
  | false =>
   intro h
   have h:p.mode=2:=h
   omega
  | true=>exact fun _=>⟨h1,rfl,rfl⟩
 | false=>intro h;exact absurd h (by show ¬ (3:Int)=2;omega)
structure Lkd(x y:CX):Prop where
 g:y.1.seen.gyro=x.1.seen.gyro
 p:y.1.seen.pair=true→x.2.2.p2=true∧x.2.2.p3=true∧x.2.1.placed=true
 e:y.2=x.2
theorem Q0v{x:CX}{c:Bool}{y z:CX}(hy:c=true→Lkd x y)(hz:c=false→Lkd x z):Lkd x (bif c then y else z):=by
 cases c
 ·exact hz rfl
 ·exact hy rfl
theorem J3m{x:CX}(hx:x.1.seen.pair=false):(K1c x).1.seen.gyro=x.2.2.p1∧((K1c x).1.seen.pair=true→x.2.2.p2=true∧x.2.2.p3=true∧x.2.1.placed=true)∧(K1c x).2=x.2:=by
 have hP:∀{y:CX} (fl:Bool),y.2.1.placed=true→Lkd y (lkPX LK y fl):=by
  intro y fl hp
  have no:∀a b,Lkd y (lkBX y a b false):=fun a b=>⟨rfl,fun h=>(by cases h),rfl⟩
  have yes:∀a b p,y.2.2.p2=true→y.2.2.p3=true→Lkd y (lkBX y a b p):=fun a b p h2 h3=>⟨rfl,fun _=>⟨h2,h3,hp⟩,rfl⟩
  unfold lkPX
  exact Q0v (fun h2=>Q0v (fun h3=>Q0v (fun _=>yes _ _ _ h2 h3) fun _=>no _ _) fun _=>no _ _) fun _=>Q0v (fun _=>no _ _) fun _=>no _ _
 have hS:∀{y:CX} (a b c:V3×Bool),y.1.seen.pair=false→y.2.1.placed=true→Lkd y (lkSX LK y a b c):=by
  intro y a b c hy hp
  unfold lkSX
  refine Q0v (fun _=>⟨rfl,fun h=>?_,rfl⟩) fun _=>?_
  ·rw[show y.1.seen.pair=true from h]at hy;cases hy
  ·obtain ⟨g,p,e⟩:=hP (y:=({y.1 with sky:=⟨b.1,c.1⟩,seen:={y.1.seen with lit:=!(LK.sh false (a.1,b.1,())).1}},y.2.1,y.2.2)) c.2 hp
   exact ⟨g,p,e⟩
 have hG:∀{y:CX},y.1.seen.pair=false→Lkd y (lkGX LK y):=by
  intro y hy
  unfold lkGX
  refine Q0v (fun _=>⟨rfl,fun h=>?_,rfl⟩) fun hp=>hS _ _ _ hy (by simpa using hp)
  rw[h]at hy;cases hy
 unfold K1c J3h
 cases hp1:x.2.2.p1 with
 | true =>
  obtain ⟨g,p,e⟩:=hG (y:=({x.1 with seen:={x.1.seen with gyro:=true,slow:=decide ((LK.vn false (x.2.2.r1.v,())).1≤54975581388)}},x.2.1,x.2.2)) hx
  exact ⟨g,p,e⟩
 | false =>
  obtain ⟨g,p,e⟩:=hG (y:=({x.1 with seen:={x.1.seen with gyro:=false}},x.2.1,x.2.2)) hx
  exact ⟨g,p,e⟩
theorem Q1d:Z0m fun x=>x.1.seen.pair=false where
 rej h:=h
 left _ h:=h
 ack _ h:=h
 say _ _ h:=h
 orb _ h:=h
 clr h:=h
 put _ h:=h
 drift _ h:=h
structure ThIn(tk:Int)(t:Th)(x:CX):Prop where
 k:x.1.tk=tk
 b:x.2.2.p1=t.b
 c:x.2.2.p2=t.c
 d:x.2.2.p3=t.d
theorem H0j{tk:Int}{t:Th}{c:Bool}{y z:CX}(hy:ThIn tk t y)(hz:ThIn tk t z):ThIn tk t (bif c then y else z):=by
 cases c
 ·exact hz
 ·exact hy
theorem ThIn.rejd{tk:Int}{t:Th}{x:CX}(h:ThIn tk t x):ThIn tk t (rejX x):=⟨h.k,h.b,h.c,h.d⟩
theorem ThIn.order{tk:Int}{t:Th}{x:CX}(h:ThIn tk t x)(f:Fr×Unit):ThIn tk t (V0g x f):=by
 have ha:ThIn tk t (ackX x (ordV f)):=⟨h.k,h.b,h.c,h.d⟩
 unfold V0g Q1c
 exact H0j ha.rejd (H0j ⟨h.k,h.b,h.c,h.d⟩ (H0j ⟨h.k,h.b,h.c,h.d⟩ (H0j ⟨h.k,h.b,h.c,h.d⟩ (H0j ⟨h.k,h.b,h.c,h.d⟩ ha))))
theorem Q1t(f:Fr)(h:(C0j (f,())).b=true):(C0j (f,())).a.kind=f.kind:=by
 obtain ⟨k,d⟩:=f
 cases hb:P0h RD k d with
 | true =>
  have e:C0j (⟨k,d⟩,())=⟨⟨0,0,⟨0,0,0⟩⟩,false⟩:=by unfold C0j Q1q;dsimp only;rw[hb];rfl
  rw[e]at h
  cases h
 | false =>
  rw[V0n _ _ hb]at h ⊢
  cases ho:(rdT4 RD k d).ok with
  | false=>rw[ho]at h;cases h
  | true=>rfl
theorem H3j{tk:Int}{t:Th}{x:CX}(h:ThIn tk t x)(f:Fr):ThIn tk (thF C0j D0y tk t f) (N0d HR x f):=by
 have hk:=Q1t f
 have hk3:=Q1r f
 have e1:HR.rd=C0j:=rfl
 have e2:HR.fr=D0y:=rfl
 have e3:HR.rj=rejX:=rfl
 have e4:HR.od=V0g:=rfl
 unfold N0d X0p thF
 rw[e1,e2,e3,e4,h.k]
 generalize C0j (f,())=r at hk hk3 ⊢
 obtain ⟨r,ok⟩:=r
 dsimp only at hk hk3 ⊢
 cases ok with
 | false =>
  simp only[cond_false]
  exact H0j h.rejd (H0j h.rejd (H0j h.rejd (H0j (h.order _) h.rejd)))
 | true =>
  have hk:=hk rfl
  have hk3:=hk3 rfl
  simp only[cond_true]
  rw[hk]
  rw[hk]at hk3
  cases D0y (r,tk,()) with
  | false =>
   simp only[cond_false]
   exact H0j h.rejd (H0j h.rejd (H0j h.rejd (H0j (h.order _) h.rejd)))
  | true =>
   simp only[cond_true]
   unfold P4w
   rcases hk3 with e | e | e
   ·rw[e];exact ⟨h.k,rfl,h.c,h.d⟩
   ·rw[e];exact ⟨h.k,h.b,rfl,h.d⟩
   ·rw[e];exact ⟨h.k,h.b,h.c,rfl⟩
theorem X1w{tk:Int}:∀(fs:List Fr) {t:Th} {x:CX},ThIn tk t x→ThIn tk (fs.foldl (thF C0j D0y tk) t) (fs.foldl (N0d HR) x)
 | [],_,_,h=>h
 | f :: fs,_,_,h=>X1w fs (H3j h f)
theorem W2b{tk:Int}{t:Th}{x:CX}(h:ThIn tk t x)(b:ByteArray):ThIn tk ((B0w (x.2.1.left++b).data.toList).1.foldl (thF C0j D0y tk) t) (W0v HR x (b,())):=by
 unfold W0v A2g
 refine X1w _ ?_
 unfold H0z
 exact H0j ⟨h.k,h.b,h.c,h.d⟩ ⟨h.k,h.b,h.c,h.d⟩
theorem G1h{a b A B:Int}(ha:-A≤a∧a≤A)(hb:-B≤b∧b≤B):-(A*B)≤a*b∧a*b≤A*B:=by
 have h1:0≤(A-a)*(B-b):=Int.mul_nonneg (by omega) (by omega)
 have h2:0≤(A+a)*(B+b):=Int.mul_nonneg (by omega) (by omega)
 have h3:0≤(A-a)*(B+b):=Int.mul_nonneg (by omega) (by omega)
 have h4:0≤(A+a)*(B-b):=Int.mul_nonneg (by omega) (by omega)
 have e1:(A-a)*(B-b)+(A+a)*(B+b)=2*(A*B)+2*(a*b):=by grind
 have e2:(A-a)*(B+b)+(A+a)*(B-b)=2*(A*B)-2*(a*b):=by grind
 omega
theorem Z0a{q:Int}(h:-1099511627776≤q∧q≤1099511627776):∃n,G0m false q 1 67108864=(n,false)∧2*q-67108864≤134217728*n∧134217728*n≤2*q+67108864:=by
 have e:G0m false q 1 67108864=(R0r q 1 67108864,false):=by
  have e:(false||!C0r [q,1,67108864])=false:=by simp[C0r,K0t (x:=q) (by omega) (by omega)];decide
  unfold G0m
  rw[e,cond_false]
  refine N1q (by decide) ?_
  have h1:iabs 67108864=67108864:=rfl
  have h2:iabs 1=1:=rfl
  have h3:=H2n (n:=1099511627776) h
  have h4:=A1m q
  rw[h1,h2]
  omega
 have s:=C1b (a:=q) (b:=1) (c:=67108864) (by omega)
 exact ⟨_,e,by omega,by omega⟩
theorem K1x{q n:Int}(hn:-16384≤n∧n≤16384)(h1:2*q-67108864≤134217728*n)(h2:134217728*n≤2*q+67108864):q*q-75000000000000000000≤4503599627370496*(n*n)∧4503599627370496*(n*n)≤q*q+75000000000000000000:=by
 obtain ⟨e,he⟩:∃e,e=q-67108864*n:=⟨_,rfl⟩
 have hq:q=67108864*n+e:=by omega
 have b1:=G1h (a:=n) (b:=e) (A:=16384) (B:=33554432) hn (by omega)
 have b2:=G1h (a:=e) (b:=e) (A:=33554432) (B:=33554432) (by omega) (by omega)
 have id:q*q=4503599627370496*(n*n)+134217728*(n*e)+e*e:=by rw[hq];grind
 omega
theorem P4c{q:V4}(hw:-16384≤q.w∧q.w≤16384)(hx:-16384≤q.x∧q.x≤16384)(hy:-16384≤q.y∧q.y≤16384)(hz:-16384≤q.z∧q.z≤16384):sq4 q=q.w*q.w+q.x*q.x+q.y*q.y+q.z*q.z:=by
 have b1:=G1h hw hw
 have b2:=G1h hx hx
 have b3:=G1h hy hy
 have b4:=G1h hz hz
 unfold sq4
 rw[K0c (x:=q.w*q.w) (by omega) (by omega),K0c (x:=q.x*q.x) (by omega) (by omega),K0c (x:=q.y*q.y) (by omega) (by omega),K0c (x:=q.z*q.z) (by omega) (by omega),
  K0c (x:=0+q.w*q.w) (by omega) (by omega),K0c (x:=0+q.w*q.w+q.x*q.x) (by omega) (by omega),K0c (x:=0+q.w*q.w+q.x*q.x+q.y*q.y) (by omega) (by omega),K0c (x:=0+q.w*q.w+q.x*q.x+q.y*q.y+q.z*q.z) (by omega) (by omega)]
 omega
theorem U0p{n:Int}(h:-16384≤n∧n≤16384):N0b n=true:=by
 have e:IntKind.i16.wrap n=n:=by
  have:IntKind.i16.wrap n=if n % 65536≥32768 then n % 65536-65536 else n % 65536:=by simp[IntKind.wrap,IntKind.bits,IntKind.signed]
  rw[this]
  split<;>omega
 have e2:IntKind.i64.wrap n=n:=by rw[C0k];omega
 unfold N0b
 rw[e,e2]
 exact beq_self_eq_true n
theorem U2k{q:V4}(h:QU q):268173312≤sq4 (E0w (q,V3.zero,())).a∧sq4 (E0w (q,V3.zero,())).a≤268697600:=by
 obtain ⟨n1,e1,a1,a2⟩:=Z0a (q:=q.w) h.v.x
 obtain ⟨n2,e2,a3,a4⟩:=Z0a (q:=q.x) h.v.y
 obtain ⟨n3,e3,a5,a6⟩:=Z0a (q:=q.y) h.v.z
 obtain ⟨n4,e4,a7,a8⟩:=Z0a (q:=q.z) h.s
 have ux:-1099511627776≤q.w∧q.w≤1099511627776:=h.v.x
 have uy:-1099511627776≤q.x∧q.x≤1099511627776:=h.v.y
 have uz:-1099511627776≤q.y∧q.y≤1099511627776:=h.v.z
 have us:-1099511627776≤q.z∧q.z≤1099511627776:=h.s
 have hlo:1208925819614629174706176-16492674416640≤q.w*q.w+q.x*q.x+q.y*q.y+q.z*q.z:=h.lo
 have hhi:q.w*q.w+q.x*q.x+q.y*q.y+q.z*q.z≤1208925819614629174706176+16492674416640:=h.hi
 have z0:G0m false 0 10000 1099511627776=(0,false):=by kernel_rfl
 have hc:cnt0 (op3 G0m) q V3.zero=(⟨⟨n1,n2,n3,n4⟩,⟨0,0,0⟩⟩,false):=by
  unfold cnt0 op3
  dsimp only
  rw[e1]
  dsimp only
  rw[e2]
  dsimp only
  rw[e3]
  dsimp only
  rw[e4]
  dsimp only
  rw[show V3.zero.x=0 from rfl,z0]
  dsimp only
  rw[show V3.zero.y=0 from rfl,z0]
  dsimp only
  rw[show V3.zero.z=0 from rfl,z0]
 have hr:E0m (T1e ⟨⟨n1,n2,n3,n4⟩,⟨0,0,0⟩⟩)=true:=by
  unfold E0m tlOk T1e
  dsimp only
  rw[U0p (n:=n1) (by omega),U0p (n:=n2) (by omega),U0p (n:=n3) (by omega),U0p (n:=n4) (by omega)]
  kernel_rfl
 have ec:(E0w (q,V3.zero,())).a=⟨n1,n2,n3,n4⟩:=by
  unfold E0w T1g
  dsimp only
  rw[hc]
  dsimp only
  rw[hr]
  rfl
 rw[ec,P4c (by show -16384≤n1∧n1≤16384;omega) (by show -16384≤n2∧n2≤16384;omega) (by show -16384≤n3∧n3≤16384;omega) (by show -16384≤n4∧n4≤16384;omega)]
 show 268173312≤n1*n1+n2*n2+n3*n3+n4*n4∧n1*n1+n2*n2+n3*n3+n4*n4≤268697600
 have s1:=K1x (q:=q.w) (n:=n1) (by omega) a1 a2
 have s2:=K1x (q:=q.x) (n:=n2) (by omega) a3 a4
 have s3:=K1x (q:=q.y) (n:=n3) (by omega) a5 a6
 have s4:=K1x (q:=q.z) (n:=n4) (by omega) a7 a8
 omega
theorem U2m(v:V3):sq4 (E0w (V4.zero,v,())).a=0:=by
 have z0:(cnt0 (op3 G0m) V4.zero v).1.a=V4.zero:=by kernel_rfl
 unfold E0w T1g
 dsimp only
 cases (cnt0 (op3 G0m) V4.zero v).2 with
 | true=>rfl
 | false =>
  rw[cond_false]
  cases E0m (T1e (cnt0 (op3 G0m) V4.zero v).1) with
  | false=>rfl
  | true =>
   rw[Bool.not_true,cond_false,z0]
   rfl
structure Pld(x y:CX):Prop where
 m:y.2.1.plan.mode=2→(H0v x.2.1.plan x.1.seen).mode=2
 p:y.2.1.placed=x.2.1.placed
theorem Q0x{x:CX}{c:Bool}{y z:CX}(hy:c=true→Pld x y)(hz:c=false→Pld x z):Pld x (bif c then y else z):=by
 cases c
 ·exact hz rfl
 ·exact hy rfl
theorem Y2m(x:CX):Pld x (N0h x):=by
 unfold N0h P2g
 dsimp only
 refine Q0x (fun h2=>?_) fun _=>Q0x (fun _=>⟨fun h=>h,rfl⟩) fun _=>⟨fun h=>h,rfl⟩
 have h2:(H0v x.2.1.plan x.1.seen).mode=2:=by simpa using h2
 exact Q0x (fun _=>Q0x (fun _=>⟨fun _=>h2,rfl⟩) fun _=>Q0x (fun _=>⟨fun _=>h2,rfl⟩) fun _=>⟨fun _=>h2,rfl⟩) fun _=>Q0x (fun _=>⟨fun _=>h2,rfl⟩) fun _=>⟨fun _=>h2,rfl⟩
theorem E1q(x:CX):(cstD ST x).2.2=x.2.2:=by
 unfold cstD
 cases x.2.2.p3<;>rfl
theorem T1m{c:Crf}{tk:Int}{b:ByteArray}(hc:CIn c):T0g (c,(endX ST tk (cstH ST c tk b)).2.1,H0h (endX ST tk (cstH ST c tk b)),b,())=true:=by
 have hf:=J1h tk (cstH ST c tk b)
 have htk:(endX ST tk (cstH ST c tk b)).2.1.tk=tk:=rfl
 have hq:(H0h (endX ST tk (cstH ST c tk b))).q=(E0w ((endX ST tk (cstH ST c tk b)).2.1.guess.q,(bif (endX ST tk (cstH ST c tk b)).2.1.plan.mode==0 then (E1m opsF false ((endX ST tk (cstH ST c tk b)).2.1.drift,())).1 else V3.zero),())).a:=rfl
 unfold T0g
 dsimp only
 rw[hq]
 cases hm:(endX ST tk (cstH ST c tk b)).2.1.plan.mode != 2 with
 | true =>
  rw[cond_true,hf.n (by simpa using hm),show Gs.zero.q=V4.zero from rfl,U2m]
  rfl
 | false =>
 have hm:(endX ST tk (cstH ST c tk b)).2.1.plan.mode=2:=by simpa using hm
 rw[cond_false,hm,show ((2:Int)==0)=false from rfl,cond_false]
 obtain ⟨l1,l2⟩:=U2k (hf.y hm).q
 rw[decide_eq_false (by omega),decide_eq_false (by omega),cond_false,cond_false]
 cases hw:c.plan.mode==2 with
 | true=>rfl
 | false =>
 rw[cond_false]
 have hx:XIn tk (gapV c tk) (gapV c tk==0) c.plan.mode (c.left.size+b.size) (cstH ST c tk b):=(hc.start tk (by omega)).heard b (Nat.le_refl _)
 have hxd:=hx.drifted
 have hxl:XIn tk (gapV c tk) (gapV c tk==0) c.plan.mode (c.left.size+b.size) (ST.lk (cstD ST (cstH ST c tk b))):=hxd.looked
 have e1:cstF ST (ST.lk (cstD ST (cstH ST c tk b)))=ST.lk (cstD ST (cstH ST c tk b)):=by
  unfold cstF
  rw[hxl.mode,hw,cond_false]
 have hp:=Y2m (cstF ST (ST.lk (cstD ST (cstH ST c tk b))))
 have hn:=hp.m hm
 have hpl:(endX ST tk (cstH ST c tk b)).2.1.placed=(cstF ST (ST.lk (cstD ST (cstH ST c tk b)))).2.1.placed:=hp.p
 rw[e1]at hn hpl
 obtain ⟨m1,m2,m3⟩:=A2v hn (by rw[hxl.mode];exact hw)
 have hpair:(cstD ST (cstH ST c tk b)).1.seen.pair=false:=Q1d.drifted (Q1d.heard (x:=(stp1 c tk,c,rds0)) rfl b)
 obtain ⟨k1,k2,k3⟩:=J3m (x:=cstD ST (cstH ST c tk b)) hpair
 have e2:ST.lk=K1c:=rfl
 rw[e2]at m1 m2 m3 hpl hxl
 rw[k1,E1q]at m2
 obtain ⟨p2,p3,pl⟩:=k2 m3
 rw[E1q]at p2 p3
 have hth:ThIn tk (enTh (c,(endX ST tk (cstH ST c tk b)).2.1,H0h (endX ST tk (cstH ST c tk b)),b,())) (cstH ST c tk b):=W2b (x:=(stp1 c tk,c,rds0)) ⟨rfl,rfl,rfl,rfl⟩ b
 have hm1:c.plan.mode=1:=by rw[← hxl.mode];exact m1
 unfold E2p
 rw[← hth.b,← hth.c,← hth.d,m2,p2,p3,hpl,k3,pl,hm1]
 rfl
noncomputable def wgR:Nat→Code
 | 0=>Tryz.f12.body.getD .skip
 | k+1=>seqR (wgR k)
noncomputable def wgL(k:Nat):Code:=seqL (wgR k)
noncomputable def wgO3:Array Oper:=regO (seqL (wgL 2))
noncomputable def wgO5:Array Oper:=regO (seqL (wgR 3))
theorem T5y:Tryz.f12.body=some (.seq (wgL 0) (.seq (wgL 1) (.seq (.seq (.region 3 wgO3 false) (seqR (wgL 2))) (.seq (.region 5 wgO5 false) .ret)))):=by kernel_rfl
theorem B5b:Tryz.prog.funcs[12]?=some Tryz.f12:=by kernel_rfl
theorem f4_N:Tryz.f12.ntmps=10:=by kernel_rfl
theorem A4c : (Tryz.f14.body.isSome && !Tryz.f14.name == "runtime.NumGoroutine") = true := by kernel_rfl
theorem A4d : (Tryz.f15.body.isSome && !Tryz.f15.name == "runtime.NumGoroutine") = true := by kernel_rfl
def D2x:Call:={callee:=.value (.func 14),args:=#[.tmp 5],argTypes:=#[24]}
def E3g:Call:={callee:=.value (.func 15),args:=#[.tmp 8,.func 40],argTypes:=#[24,52]}
theorem T5u:B0a wgO3 1=some (.call D2x,some 6,true):=by kernel_rfl
theorem T5v:List.range wgO3.size=(List.range (wgO3.toList.take 1).length).map (0+·)++(1 :: ((List.range (wgO3.toList.drop 2).length).map (2+·)++[])):=by kernel_rfl
theorem T5w:B0a wgO5 1=some (.call E3g,some 9,true):=by kernel_rfl
theorem T5x:List.range wgO5.size=(List.range (wgO5.toList.take 1).length).map (0+·)++(1 :: ((List.range (wgO5.toList.drop 2).length).map (2+·)++[])):=by kernel_rfl
def U0d:Gam:=[(13,S0 fun (_:Unit)=>true)]
theorem V0y:GamOk Tryz.prog U0d:=.cons X2u .nil
def wgS(bg:Int)(a:Option Addr)(n c:Nat)(tm:List (Nat×AV)):St:=gSt 10 ([(1,.ptr 4096 0),(2,.val (.bool false))]++tm) [(4096,D1v bg a n c)] lN1
def plV(bg:Int)(a:Option Addr)(n c:Nat):Value:=.agg (List.toArray [.int .i64 bg,.slice a n c])
noncomputable abbrev A3x(c:Code)(s:St)(ks ts:List Nat):Option (Ex×St):=gRun Tryz.prog {gam:=U0d} 10 c s ks ts
noncomputable abbrev A3w(ts:List Nat):St→List Foot→Option (Bool×St):=C0p [4096] (E0d 10 ts)
section
variable (bg:Int) (a:Option Addr) (n c:Nat) (t:Bool)
theorem T5z:A3x (wgL 0) (B0t 10 [.val (.agg #[.int .i64 bg,.slice a n c])] []) [4096] [1,2]=some (.normal,wgS bg a n c []):=by kernel_rfl
theorem U5a:A3x (wgL 1) (wgS bg a n c []) [4096] [1,2]=some (.normal,wgS bg a n c []):=by kernel_rfl
theorem U5b:B0j Tryz.prog (B0v Tryz.prog {gam:=U0d} 4 (Bool×St)) (B0p U0d) 10 wgO3 (wgO3.toList.take 1) (wgS bg a n c []) [] (A3w [1,2,5])=some (true,wgS bg a n c [(5,.val (plV bg a n c))]):=by kernel_rfl
theorem T4e:B0j Tryz.prog (B0v Tryz.prog {gam:=U0d} 4 (Bool×St)) (B0p U0d) 10 wgO3 (wgO3.toList.drop 2) {wgS bg a n c [(5,.val (plV bg a n c))]with tmps:=(wgS bg a n c [(5,.val (plV bg a n c))]).tmps.set 6 (.val (.bool t))} [] (A3w [1,2,7])=some (true,wgS bg a n c [(7,.val (.bool (!t)))]):=by kernel_rfl
theorem U5c:A3x (seqR (wgL 2)) (wgS bg a n c [(7,.val (.bool t))]) [4096] [1,2]=bif t then some (.ret,{wgS bg a n c []with tmps:=(wgS bg a n c []).tmps.set 2 (.val (.bool true))}) else some (.normal,wgS bg a n c []):=by kernel_rfl
theorem U5d:B0j Tryz.prog (B0v Tryz.prog {gam:=U0d} 4 (Bool×St)) (B0p U0d) 10 wgO5 (wgO5.toList.take 1) (wgS bg a n c []) [] (A3w [1,2,8])=some (true,wgS bg a n c [(8,.val (plV bg a n c))]):=by kernel_rfl
theorem T4g:B0j Tryz.prog (B0v Tryz.prog {gam:=U0d} 4 (Bool×St)) (B0p U0d) 10 wgO5 (wgO5.toList.drop 2) {wgS bg a n c [(8,.val (plV bg a n c))]with tmps:=(wgS bg a n c [(8,.val (plV bg a n c))]).tmps.set 9 (.val (.bool t))} [] (A3w [1,2])=some (true,{wgS bg a n c []with tmps:=(wgS bg a n c []).tmps.set 2 (.val (.bool t))}):=by kernel_rfl
theorem D3m:resA Tryz.prog {wgS bg a n c []with tmps:=(wgS bg a n c []).tmps.set 2 (.val (.bool t))} Tryz.f12.results.toList=some [.val (.bool t)]:=by kernel_rfl
theorem T3a(v:Value):(wgS bg a n c [(5,.val v)]).tmps.length=10:=by kernel_rfl
theorem T3b(v:Value):(wgS bg a n c [(8,.val v)]).tmps.length=10:=by kernel_rfl
end
theorem R1b:∀(rs:List Rec) (s:Int),(∀r∈rs,r.2.size≤140737488355328)→0≤s→s≤3000→M0q s rs=true→s+((rs.map fun r=>r.2.size).sum:Nat)≤3000
 | [],s,_,_,h,_=>by simpa using h
 | r :: t,s,hz,h0,h1,h=>by
  have hr:=hz r (List.mem_cons_self ..)
  have e:wI (s+(r.2.size:Int))=s+(r.2.size:Int):=K0c (by omega) (by omega)
  unfold M0q at h
  rw[e]at h
  by_cases hb:s+(r.2.size:Int)>3000
  ·rw[decide_eq_true hb]at h;cases h
  ·rw[decide_eq_false hb,cond_false]at h
   have :=R1b t _ (fun x hx=>hz x (List.mem_cons_of_mem _ hx)) (by omega) (by omega) h
   simp only[List.map_cons,List.sum_cons]
   omega
theorem Z1w:GamOk Tryz.prog (T1k B0y D0d N0p M1b T0g):=.cons K1m (.cons C3n (.cons X2r .nil))
theorem V4a(bg:Int)(a:Option Addr)(c:Nat)(rs:List Rec)(w:World)(hat:RecAt w a rs.length rs)(hz:∀r∈rs,r.2.size≤140737488355328) :
  Calls Tryz.prog 12 #[.agg #[.int .i64 bg,.slice a rs.length c]] w fun e w'=>∃v,e=.returned v∧RowKit.Below w.heap.size w w'∧v=.bool true:=by
 have gr:∀{cd:Code} {s s1:St} {ks ts:List Nat} {e:Ex},A3x cd s ks ts=some (e,s1)→A0b Tryz.prog 10 cd s e s1:=fun h=>A0a (E:={gam:=U0d}) V0y h
 refine U0m (vals:=[.agg #[.int .i64 bg,.slice a rs.length c]]) (args:=[.val (.agg #[.int .i64 bg,.slice a rs.length c])]) B5b T5y f4_N (by show 1≤10;omega) w (by simp only[Rels,Rel];exact ⟨_,_,rfl,rfl,rfl⟩) fun act Q hst hQ=>?_
 refine wp_seq (gr (T5z bg a rs.length c) _ _ _ _ _ act w hst _ fun a1 w1 h1=>?_)
 refine wp_seq (gr (U5a bg a rs.length c) _ _ _ _ _ a1 w1 h1 _ fun a2 w2 h2=>?_)
 have later:∀{s:St} {ax:Act} {wx:World},A0j 10 w U1k N0x 4096 (4096+2^200) s ax wx→RecAt wx a rs.length rs:=fun h=>hat.later (by obtain ⟨_,_,hf,_⟩:=h;exact hf.grown) fun k hk=>h.far hk fun h=>h
 refine wp_seq (wp_seq (wp_region ?_))
 rw[T5v]
 refine D0z (B0b (E:={gam:=U0d}) V0y 4 _) [4096] _ (U5b bg a rs.length c) (fun _ _ hj=>L0b hj) h2 _ fun a3 w3 h3=>?_
 have harg:D2x.args.map a3.eval=#[plV bg a rs.length c]:=by
  have:a3.eval (.tmp 5)=plV bg a rs.length c:=h3.eval (t:=5) rfl
  simp[D2x,this]
 refine P0r T5u (by omega) (T3a ..) h3 rfl B3v A4c harg (U1d bg a c rs w3 (later h3)) _ fun v a4 w4 own1 σ1 hX _ _ _ h4 back=>?_
 subst hX
 refine D0z (B0b (E:={gam:=U0d}) V0y 4 _) [4096] _ (T4e bg a rs.length c (R0p bg rs)) (fun _ _ hj=>D0k hj) h4 [] fun a5 w5 h5=>?_
 have h5:=back _ _ _ h5
 have q4:=U5c bg a rs.length c (!R0p bg rs)
 cases hl:R0p bg rs with
 | false =>
  rw[hl]at h5 q4
  refine gr q4 _ _ _ _ _ a5 w5 h5 _ fun a6 w6 h6=>?_
  exact hQ .ret a6 w6 _ _ _ (.inr rfl) h6 (D3m ..) rfl rfl
 | true =>
  rw[hl]at h5 q4
  refine gr q4 _ _ _ _ _ a5 w5 h5 _ fun a6 w6 h6=>?_
  refine wp_seq (wp_region ?_)
  rw[T5x]
  refine D0z (B0b (E:={gam:=U0d}) V0y 4 _) [4096] _ (U5d bg a rs.length c) (fun _ _ hj=>L0b hj) h6 _ fun a7 w7 h7=>?_
  have harg:E3g.args.map a7.eval=#[plV bg a rs.length c,.func (.func 40) #[] #[]]:=by
   have h1:a7.eval (.tmp 8)=plV bg a rs.length c:=h7.eval (t:=8) rfl
   have h2:a7.eval (.func 40)=.func (.func 40) #[] #[]:=rfl
   simp[E3g,h1,h2]
  have hsum:(crf0.left.size+(rs.map fun r=>r.2.size).sum:Nat)≤1099511627776:=by
   have h1:M0q 0 rs=true:=by
    unfold R0p at hl
    simp only[Bool.and_eq_true]at hl
    exact hl.1
   have :=R1b rs 0 hz (by omega) (by omega) h1
   show 0+_≤_
   omega
  obtain ⟨e1,e2⟩:=K0e (hd:=T0g) (fun c tk b hc _=>T1m hc) rs crf0 bg T1h hsum
  refine P0r T5w (by omega) (T3b ..) h7 rfl B3w A4d harg (Z1v Z1w bg a c rs w7 (later h7) e1) _ fun v a8 w8 own1 σ1 hX _ _ _ h8 back=>?_
  subst hX
  rw[e2]at h8
  refine D0z (B0b (E:={gam:=U0d}) V0y 4 _) [4096] _ (T4g bg a rs.length c true) (fun _ _ hj=>D0k hj) h8 [] fun a9 w9 h9=>?_
  have fin:Q .ret a9 w9:=hQ .ret a9 w9 _ _ _ (.inr rfl) (back _ _ _ h9) (D3m ..) rfl rfl
  change Code.wp Tryz.prog .ret Q a9 w9
  exact wp_ret fin
end Go.Ab
namespace Go.Ab
open Go Go.Proofs Go.WideShapes
section
variable {H:Type} {enc:TypeId×Value→H} {W:World} {base:Nat} {spare:Nat→Bool} {held:Bool}
theorem u2:Tryz.prog.underlying 2=some (.int .i64):=by kernel_rfl
theorem u9:Tryz.prog.underlying 9=some .string:=by kernel_rfl
theorem k2:Tryz.prog.cellsOf 2=1:=by kernel_rfl
theorem k9:Tryz.prog.cellsOf 9=1:=by kernel_rfl
theorem k22:Tryz.prog.cellsOf 22=1:=by kernel_rfl
theorem k24:Tryz.prog.cellsOf 24=2:=by kernel_rfl
theorem k70:Tryz.prog.cellsOf 70=2:=by kernel_rfl
theorem U0w{n:Nat}{c:Value}{x:DataW H×List MemPlace}(h:DataW.trod enc Tryz.prog W base spare held n 2 [c]=some x):∃k,c=.int .i64 k∧x=(.lit (.int .i64 k),[]):=by
 cases n with
 | zero=>simp[DataW.trod]at h
 | succ n =>
  simp only[DataW.trod,u2]at h
  split at h<;>simp_all
theorem L1x{n:Nat}{c:Value}{x:DataW H×List MemPlace}(h:DataW.trod enc Tryz.prog W base spare held n 9 [c]=some x):∃s,c=.string s∧x=(.lit (.string s.data.toList),[]):=by
 cases n with
 | zero=>simp[DataW.trod]at h
 | succ n =>
  simp only[DataW.trod,u9]at h
  split at h<;>simp_all
theorem L1g{n:Nat}{cs:List Value}{x:DataW H×List MemPlace}(h:DataW.trod enc Tryz.prog W base spare held n 70 cs=some x):∃k s,cs=[.int .i64 k,.string s]∧x=(.agg [.lit (.int .i64 k),.lit (.string s.data.toList)],[]):=by
 cases n with
 | zero=>simp[DataW.trod]at h
 | succ n =>
  simp only[DataW.trod,Tryz.underlying70,k70]at h
  split at h
  ·rename_i hl
   obtain ⟨c,d,rfl⟩:∃c d,cs=[c,d]:=by
    rcases cs with _ | ⟨c,_ | ⟨d,_ | ⟨e,r⟩⟩⟩
    ·simp at hl
    ·simp at hl
    ·exact ⟨c,d,rfl⟩
    ·simp at hl
   ·simp only[Option.map_eq_some_iff]at h
    obtain ⟨xs,hxs,rfl⟩:=h
    simp only[List.mapM_cons,List.mapM_nil,k2,k9,List.drop_zero,List.take_succ_cons,List.take_zero,List.drop_succ_cons,Option.bind_eq_bind,Option.bind_eq_some_iff,Option.pure_def,Option.some.injEq]at hxs
    obtain ⟨y,hy,z,⟨y2,hy2,z2,rfl,rfl⟩,rfl⟩:=hxs
    obtain ⟨k,rfl,rfl⟩:=U0w hy
    obtain ⟨s,rfl,rfl⟩:=L1x hy2
    exact ⟨k,s,rfl,rfl⟩
  ·cases h
theorem X0h{n:Nat}{cs:List Value}{x:DataW H×List MemPlace}(h:DataW.trod enc Tryz.prog W base spare held n 24 cs=some x):∃bg c y n',cs=[.int .i64 bg,c]∧DataW.trod enc Tryz.prog W base spare held n' 22 [c]=some y∧x=(.agg [.lit (.int .i64 bg),y.1],y.2):=by
 cases n with
 | zero=>simp[DataW.trod]at h
 | succ n =>
  simp only[DataW.trod,Tryz.underlying24,k24]at h
  split at h
  ·rename_i hl
   obtain ⟨c,d,rfl⟩:∃c d,cs=[c,d]:=by
    rcases cs with _ | ⟨c,_ | ⟨d,_ | ⟨e,r⟩⟩⟩
    ·simp at hl
    ·simp at hl
    ·exact ⟨c,d,rfl⟩
    ·simp at hl
   ·simp only[Option.map_eq_some_iff]at h
    obtain ⟨xs,hxs,rfl⟩:=h
    simp only[List.mapM_cons,List.mapM_nil,k2,k22,List.drop_zero,List.take_succ_cons,List.take_zero,List.drop_succ_cons,Option.bind_eq_bind,Option.bind_eq_some_iff,Option.pure_def,Option.some.injEq]at hxs
    obtain ⟨y,hy,z,⟨y2,hy2,z2,rfl,rfl⟩,rfl⟩:=hxs
    obtain ⟨k,rfl,rfl⟩:=U0w hy
    exact ⟨k,d,y2,n,rfl,hy2,by simp⟩
  ·cases h
theorem X0a{P:Program}{w:World}{r:Reach}{base:Nat}{t:TypeId}{v:Value}{fs:Array Field}(ht:P.underlying t=some (.struct fs))(h:Value.okWide P w r base t v):∃arr,v=.agg arr:=by
 simp only[Value.okWide,ht]at h
 obtain ⟨cs,rfl,_⟩:=h
 exact ⟨cs,rfl⟩
theorem A1r{P:Nat→Rec→Prop}:∀n:Nat,(∀i,i<n→∃r,P i r)→∃rs:List Rec,rs.length=n∧∀i (hi:i<rs.length),P i rs[i]
 | 0,_=>⟨[],rfl,fun i hi=>by simp at hi⟩
 | n+1,h=>by
  obtain ⟨rs,hl,hr⟩:=A1r n fun i hi=>h i (by omega)
  obtain ⟨r,hp⟩:=h n (by omega)
  refine ⟨rs++[r],by simp[hl],fun i hi=>?_⟩
  by_cases hlt:i<rs.length
  ·rw[List.getElem_append_left hlt]
   exact hr i hlt
  ·have e:i=n:=by simp at hi;omega
   subst e
   rw[List.getElem_append_right (by omega)]
   simpa[hl]using hp
theorem P0p{d:DataW H}{e n:Nat}:∀{l:List (DataW H)},d∈l→n∈d.weights Tryz.prog e→n∈DataW.weightsAll Tryz.prog e l
 | [],h,_=>by cases h
 | x :: r,h,hn=>by
  simp only[DataW.weightsAll,List.mem_append]
  cases List.mem_cons.1 h with
  | inl e=>subst e;exact .inl hn
  | inr e=>exact .inr (P0p e hn)
theorem T1c:Tryz.prog.bytesOf 70=24:=by kernel_rfl
theorem W0d{w:World}{a:Addr}{v:Value}(h:w.cell? a=some v):a.block<w.heap.size:=by
 cases hb:w.heap[a.block]? with
 | none=>simp[World.cell?,hb]at h
 | some o=>exact (Array.getElem?_eq_some_iff.1 hb).1
set_option maxRecDepth 100000 in
theorem L1h{n':Nat}{c0:Value}{y:DataW H×List MemPlace}(h2:DataW.trod enc Tryz.prog W 0 spare held n' 22 [c0]=some y)(hk2:∀n∈y.1.weights Tryz.prog 22,n≤140737488355328) :
  ∃(a:Option Addr) (c:Nat) (rs:List Rec),c0=.slice a rs.length c∧RecAt W a rs.length rs∧∀r∈rs,r.2.size≤140737488355328:=by
 rcases DataW.trod_slice Tryz.underlying22 h2 with ⟨e,_⟩ | ⟨a,len,cap,elems,rest,n,_,e,hy,_,_,_,hlen,hel,_⟩
 ·simp only[List.cons.injEq,and_true]at e
  subst e
  exact ⟨none,0,[],rfl,⟨rfl,by show 0≤_;omega,fun i hi=>by simp at hi⟩,fun r hr=>by cases hr⟩
 ·simp only[List.cons.injEq,and_true]at e
  subst e
  rw[hy]at hk2
  simp only[DataW.weights,Tryz.underlying22,T1c,List.mem_cons,List.mem_append]at hk2
  have hl2:=hk2 _ (.inl rfl)
  rw[List.length_map]at hl2
  obtain ⟨rs,r1,r2⟩:=A1r (P:=fun i r=>W.cells? 0 (a.add (i*2)) 2=some [.int .i64 r.1,.string r.2]∧r.2.size≤140737488355328) len fun i hi=>by
   have he:=hel i hi
   have hi2:i<elems.length:=by omega
   rw[k70,List.getElem?_eq_getElem hi2]at he
   obtain ⟨cs',c1,c2⟩:=Option.bind_eq_some_iff.1 he
   obtain ⟨k,s,rfl,hx⟩:=L1g c2
   refine ⟨(k,s),c1,?_⟩
   have hm:(elems[i]'hi2).1∈elems.map (·.1):=List.mem_map.2 ⟨elems[i]'hi2,List.getElem_mem hi2,rfl⟩
   refine hk2 _ (.inr (.inl (P0p hm ?_)))
   rw[hx]
   simp only[DataW.weights,Tryz.underlying70]
   simp[DataW.weightsEach,DataW.weights]
  subst r1
  refine ⟨some a,cap,rs,rfl,⟨rfl,by omega,fun i hi=>?_⟩,fun r hr=>?_⟩
  ·obtain ⟨hc,_⟩:=r2 i hi
   obtain ⟨_,_,hat⟩:=World.cells?_some hc
   have e0:=hat 0 (by omega)
   have e1:=hat 1 (by omega)
   rw[adds]at e0 e1
   have f0:W.cell? (a.add (i*2+0))=some (.int .i64 rs[i].1):=e0
   have f1:W.cell? (a.add (i*2+1))=some (.string rs[i].2):=e1
   exact ⟨a,rfl,by have :=W0d f0;rwa [U0k]at this,f0,f1⟩
  ·obtain ⟨i,hi,rfl⟩:=List.getElem_of_mem hr
   exact (r2 i hi).2
set_option maxRecDepth 100000 in
theorem play_open{b0:Nat}{v0:Value}{d0:DataW H}{p0:List MemPlace}(hv:Value.okWide Tryz.prog W .any b0 24 v0)(h:DataW.Trod enc Tryz.prog W 0 spare held 24 v0 d0 p0)(hk:∀n∈d0.weights Tryz.prog 24,n≤140737488355328) :
  ∃(bg:Int) (a:Option Addr) (c:Nat) (rs:List Rec),v0=.agg #[.int .i64 bg,.slice a rs.length c]∧(∀x∈p0,x.block<W.heap.size)∧RecAt W a rs.length rs∧∀r∈rs,r.2.size≤140737488355328:=by
 obtain ⟨fuel,hf⟩:=h
 have hlt:=DataW.trod_lt fuel 24 _ _ hf
 obtain ⟨arr,rfl⟩:=X0a Tryz.underlying24 hv
 obtain ⟨bg,c0,y,n',h1,h2,h3⟩:=X0h hf
 have harr:arr=#[.int .i64 bg,c0]:=by
  apply Array.toList_inj.1
  simpa[Value.cells]using h1
 subst harr
 simp only[Prod.mk.injEq]at h3
 obtain ⟨rfl,_⟩:=h3
 have hk2:∀n∈y.1.weights Tryz.prog 22,n≤140737488355328:=fun n hn=>hk n (by
  simp only[DataW.weights,Tryz.underlying24]
  simp[DataW.weightsEach,DataW.weights,hn])
 obtain ⟨a,c,rs,rfl,h3,h4⟩:=L1h h2 hk2
 exact ⟨bg,a,c,rs,rfl,hlt,h3,h4⟩
end
end Go.Ab
