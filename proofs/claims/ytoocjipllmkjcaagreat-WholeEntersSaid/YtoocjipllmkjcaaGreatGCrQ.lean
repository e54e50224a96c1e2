/- A part of the proofs: lemmas, no statement of their own; no condition. -/
import Derived.Test.YtoocjipllmkjcaaGreatGCrN
import Derived.Test.YtoocjipllmkjcaaGreatGMtJ
import Derived.Test.YtoocjipllmkjcaaGreatGFrM
import Derived.Test.YtoocjipllmkjcaaGreatGFsB
import Derived.Test.YtoocjipllmkjcaaGreatGFrK
import Derived.Test.YtoocjipllmkjcaaGreatGRtF
import Derived.Test.YtoocjipllmkjcaaGreatGQtC
import Derived.ProofKit
set_option linter.unusedSimpArgs false
namespace Go.Ab
open Go Go.Proofs
def D1j(p:Int×Unit):Int:=bif p.1==1 then 3 else bif p.1==3 then 3 else bif p.1==2 then 6 else 0
theorem A3y(k:Int):fnSum Tryz.prog {gam:=[]} [] 20 209 [.val (.int .i64 k)] []=bif k==1 then some (.val (.int .i64 3),[]) else bif k==3 then some (.val (.int .i64 3),[]) else bif k==2 then some (.val (.int .i64 6),[]) else some (.val (.int .i64 0),[]):=by kernel_rfl
theorem N3u:A0h Tryz.prog 209 (S0 D1j):=H0n (E:={gam:=[]}) GamOk.nil 20 fun a=>by
 refine (A3y a.1).trans ?_
 unfold D1j
 cases a.1==1<;>cases a.1==3<;>cases a.1==2<;>rfl
theorem ba6(s:ByteArray)(h:s.size=6):∃c0 c1 c2 c3 c4 c5,s=ds6 c0 c1 c2 c3 c4 c5:=by
 obtain ⟨⟨l⟩⟩:=s
 match l,h with
 | [a,b,c,d,e,f],_=>exact ⟨a,b,c,d,e,f,rfl⟩
theorem ba12(s:ByteArray)(h:s.size=12):∃c0 c1 c2 c3 c4 c5 c6 c7 c8 c9 ca cb,s=ds12 c0 c1 c2 c3 c4 c5 c6 c7 c8 c9 ca cb:=by
 obtain ⟨⟨l⟩⟩:=s
 match l,h with
 | [a,b,c,d,e,f,a',b',c',d',e',f'],_=>exact ⟨a,b,c,d,e,f,a',b',c',d',e',f',rfl⟩
def gyF(ds:ByteArray)(i:Nat)(t:RdT):RdT:=rdG ds i t (bif t.ok then bif decide (gyN ds i≤30000) then decide (gyN ds i≥-30000) else false else false)
def suF(ds:ByteArray)(i:Nat)(t:RdT):RdT:=rdU ds i t (bif t.lit then true else suB ds i)
theorem H2d(z:Int)(d ds:ByteArray)(i:Nat)(t:RdT):gyT z d ds i t=some (.normal,rdI1 1 z d ds (i+1) (gyF ds i t)):=by
 unfold gyT gyF
 cases t.ok
 ·rfl
 ·cases decide (gyN ds i≤30000)<;>rfl
theorem R2k(z:Int)(d ds:ByteArray)(i:Nat)(t:RdT):suT z d ds i t=some (.normal,rdI1 2 z d ds (i+1) (suF ds i t)):=by
 unfold suT suF
 cases t.lit<;>rfl
def rdRo(F:P0j)(k:Int)(ds:ByteArray)(i:Nat)(t:RdT):RdT:=bif k==1 then gyF ds i t else bif k==2 then suF ds i t else rdM F ds i t
def rdEn(F:P0j)(k:Int)(t:RdT):RdT:=bif k==1 then t else
 bif k==2 then ⟨(F.vu t.fl (t.v,())).1,bif t.ok then bif t.lit then !(F.vu t.fl (t.v,())).2 else false else false,t.lit,(F.vu t.fl (t.v,())).2⟩ else
 ⟨t.v,bif t.ok then bif decide ((F.vn t.fl (t.v,())).1≥1099511627776) then decide ((F.vn t.fl (t.v,())).1≤131941395333120) else false else false,t.lit,(F.vn t.fl (t.v,())).2⟩
def rdT0(F:P0j)(z:Int):RdT:=⟨⟨0,0,0⟩,F.rt (z,()),false,false⟩
def rdT4(F:P0j)(k:Int)(d:ByteArray):RdT:=rdEn F k (A0k (rdRo F k (d.extract 6 d.size)) 0 3 (rdT0 F (G0y d)))
def P0h(F:P0j)(k:Int)(d:ByteArray):Bool:=bif F.wd (k,())==0 then true else (d.size:Int) != IntKind.i64.wrap (6+IntKind.i64.wrap (2*F.wd (k,())))
def Q1q(F:P0j)(p:Fr×Unit):Two Rdg Bool:=bif P0h F p.1.kind p.1.data then ⟨⟨0,0,⟨0,0,0⟩⟩,false⟩ else bif !(rdT4 F p.1.kind p.1.data).ok then ⟨⟨0,0,⟨0,0,0⟩⟩,false⟩ else ⟨⟨p.1.kind,G0y p.1.data,(rdT4 F p.1.kind p.1.data).v⟩,true⟩
theorem Q3d(k:Int)(d:ByteArray):resA Tryz.prog (rdS k d []) Tryz.f164.results.toList=some [.val (Cod.enc (Rdg.mk 0 0 ⟨0,0,0⟩)),.val (.bool false)]:=by kernel_rfl
theorem Q3e(r:Rdg)(b:Bool)(lo:Nat):resA Tryz.prog (rdZ r b lo) Tryz.f164.results.toList=some [.val (Cod.enc r),.val (.bool b)]:=by kernel_rfl
section
variable {F:P0j} (hG:GamOk Tryz.prog (G0d F)) (k:Int) (d:ByteArray)
include hG
theorem P2x(z:Int)(ds:ByteArray)(hk:(k=1∧ds.size=6)∨(k=3∧ds.size=6)∨(k=2∧ds.size=12))(t:RdT):A0b Tryz.prog 165 (rdL 9) (rdJ k d z ds t []) .normal (rdJ k d z ds (A0k (rdRo F k ds) 0 3 t) []):=by
 rw[M4k]
 refine .seq (A0a (E:={gam:=G0d F}) hG (L5e F k z d ds t)) ?_
 refine A0b.rounds (id:=2) (c:=rdLB) 3 (fun i t=>rdI1 k z d ds i t) (fun t=>rdJ k d z ds t []) (rdRo F k ds) (fun i t hi=>?_) (fun t=>A0a (E:={gam:=G0d F}) hG (L5k F k z d ds t)) t
 have go:∀{t2:RdT},D1w F (rdI1 k z d ds i t)=some (.normal,rdI1 k z d ds (i+1) t2)→A0b Tryz.prog 165 rdLB (rdI1 k z d ds i t) .normal (rdI1 k z d ds (i+1) t2):=fun h=>A0c (E:={gam:=G0d F}) hG h rfl (M4m ..) rfl
 have h3:i=0∨i=1∨i=2:=by omega
 rcases hk with ⟨rfl,hs⟩ | ⟨rfl,hs⟩ | ⟨rfl,hs⟩
 ·obtain ⟨c0,c1,c2,c3,c4,c5,rfl⟩:=ba6 ds hs
  rcases h3 with rfl | rfl | rfl
  ·exact go ((K5r F z d c0 c1 c2 c3 c4 c5 t).trans (H2d ..))
  ·exact go ((K5t F z d c0 c1 c2 c3 c4 c5 t).trans (H2d ..))
  ·exact go ((K5u F z d c0 c1 c2 c3 c4 c5 t).trans (H2d ..))
 ·obtain ⟨c0,c1,c2,c3,c4,c5,rfl⟩:=ba6 ds hs
  rcases h3 with rfl | rfl | rfl
  ·exact go (K5v F z d c0 c1 c2 c3 c4 c5 t)
  ·exact go (K5w F z d c0 c1 c2 c3 c4 c5 t)
  ·exact go (K5x F z d c0 c1 c2 c3 c4 c5 t)
 ·obtain ⟨c0,c1,c2,c3,c4,c5,c6,c7,c8,c9,ca,cb,rfl⟩:=ba12 ds hs
  rcases h3 with rfl | rfl | rfl
  ·exact go ((L5p F z d c0 c1 c2 c3 c4 c5 c6 c7 c8 c9 ca cb t).trans (R2k ..))
  ·exact go ((L5q F z d c0 c1 c2 c3 c4 c5 c6 c7 c8 c9 ca cb t).trans (R2k ..))
  ·exact go ((L5r F z d c0 c1 c2 c3 c4 c5 c6 c7 c8 c9 ca cb t).trans (R2k ..))
theorem M4v(z:Int)(ds:ByteArray)(hk:k=1∨k=3∨k=2)(t:RdT):A0b Tryz.prog 165 (rdL 10) (rdJ k d z ds t []) .normal (rdJ k d z ds (rdEn F k t) []):=by
 rcases hk with rfl | rfl | rfl
 ·exact A0a (E:={gam:=G0d F}) hG (Q3a F z d ds t)
 ·refine A0a (E:={gam:=G0d F}) hG ((Q3b F z d ds t).trans ?_)
  show _=some (Ex.normal,rdJ 3 d z ds ⟨t.v,bif t.ok then bif decide ((F.vn t.fl (t.v,())).1≥1099511627776) then decide ((F.vn t.fl (t.v,())).1≤131941395333120) else false else false,t.lit,(F.vn t.fl (t.v,())).2⟩ [])
  cases t.ok
  ·rfl
  ·cases decide ((F.vn t.fl (t.v,())).1≥1099511627776)<;>rfl
 ·refine A0a (E:={gam:=G0d F}) hG ((Q3c F z d ds t).trans ?_)
  show _=some (Ex.normal,rdJ 2 d z ds ⟨(F.vu t.fl (t.v,())).1,bif t.ok then bif t.lit then !(F.vu t.fl (t.v,())).2 else false else false,t.lit,(F.vu t.fl (t.v,())).2⟩ [])
  cases t.ok
  ·rfl
  ·cases t.lit<;>rfl
theorem M4t(hb:P0h F k d=false)(hk:(k=1∧d.size=12)∨(k=3∧d.size=12)∨(k=2∧d.size=18)) :
  ∃r b,A0b Tryz.prog 165 (.seq (rdL 0) (.seq (rdL 1) (.seq (rdL 2) (.seq (rdL 3) (.seq (rdL 4) (.seq (rdL 5) (.seq (rdL 6) (.seq (rdL 7) (.seq (rdL 8) (.seq (rdL 9) (.seq (rdL 10) (rdR 11)))))))))))) (B0t 165 [.val (Cod.enc (Fr.mk k d))] []) .ret (rdZ r b rN4)∧Q1q F (⟨k,d⟩,())=⟨r,b⟩:=by
 have h6:6≤d.size:=by omega
 have hds:(d.extract 6 d.size).size=d.size-6:=by rw[ByteArray.size_extract];omega
 have hq2:L0g F (rdL 2) (rdS k d [(4,.val (.int .i64 (F.wd (k,()))))]) [4096,rN1] [1,2,3]=some (.normal,rdS k d []):=by
  rw[N4b]
  unfold P0h at hb
  revert hb
  cases F.wd (k,())==0
  ·cases (d.size:Int) != IntKind.i64.wrap (6+IntKind.i64.wrap (2*F.wd (k,())))
   ·intro _;rfl
   ·intro h;cases h
  ·intro h;cases h
 have hq5:=L5a F k (G0y d) d
 rw[decide_eq_true (by omega),cond_true]at hq5
 have main:∀(s:St) ,L0g F (rdR 11) (rdJ k d (G0y d) (d.extract 6 d.size) (rdT4 F k d) []) [rN1] [2,3]=some (.ret,s)→A0b Tryz.prog 165 (.seq (rdL 0) (.seq (rdL 1) (.seq (rdL 2) (.seq (rdL 3) (.seq (rdL 4) (.seq (rdL 5) (.seq (rdL 6) (.seq (rdL 7) (.seq (rdL 8) (.seq (rdL 9) (.seq (rdL 10) (rdR 11)))))))))))) (B0t 165 [.val (Cod.enc (Fr.mk k d))] []) .ret s:=by
  intro s hs
  refine .seq (A0a (E:={gam:=G0d F}) hG (M4y F k d)) (.seq (A0a (E:={gam:=G0d F}) hG (M4z F k d)) (.seq (A0a (E:={gam:=G0d F}) hG hq2) (.seq (A0a (E:={gam:=G0d F}) hG (K5z F k d)) (.seq (K5y hG k d h6) (.seq (A0a (E:={gam:=G0d F}) hG hq5) ?_)))))
  refine .seq (A0a (E:={gam:=G0d F}) hG (L5b F k (G0y d) d _)) (.seq (A0a (E:={gam:=G0d F}) hG (L5c F k (G0y d) d _)) (.seq (A0a (E:={gam:=G0d F}) hG (L5d F k (G0y d) d _ _)) (.seq (P2x hG k d (G0y d) _ ?_ _) (.seq (M4v hG k d (G0y d) _ ?_ _) (A0a (E:={gam:=G0d F}) hG hs)))))
  ·rcases hk with ⟨h1,h2⟩ | ⟨h1,h2⟩ | ⟨h1,h2⟩
   ·exact .inl ⟨h1,by omega⟩
   ·exact .inr (.inl ⟨h1,by omega⟩)
   ·exact .inr (.inr ⟨h1,by omega⟩)
  ·rcases hk with ⟨h1,h2⟩ | ⟨h1,h2⟩ | ⟨h1,h2⟩
   ·exact .inl h1
   ·exact .inr (.inl h1)
   ·exact .inr (.inr h1)
 have hq:=N4a F k (G0y d) d (d.extract 6 d.size) (rdT4 F k d)
 unfold Q1q
 dsimp only
 rw[hb]
 cases hok:(rdT4 F k d).ok with
 | true =>
  rw[hok]at hq
  exact ⟨_,_,main _ hq,rfl⟩
 | false =>
  rw[hok]at hq
  exact ⟨_,_,main _ hq,rfl⟩
theorem M4u(hb:P0h F k d=true):A0b Tryz.prog 165 (.seq (rdL 0) (.seq (rdL 1) (.seq (rdL 2) (.seq (rdL 3) (.seq (rdL 4) (.seq (rdL 5) (.seq (rdL 6) (.seq (rdL 7) (.seq (rdL 8) (.seq (rdL 9) (.seq (rdL 10) (rdR 11)))))))))))) (B0t 165 [.val (Cod.enc (Fr.mk k d))] []) .ret (rdS k d []):=by
 have hq2:L0g F (rdL 2) (rdS k d [(4,.val (.int .i64 (F.wd (k,()))))]) [4096,rN1] [1,2,3]=some (.ret,rdS k d []):=by
  rw[N4b]
  unfold P0h at hb
  revert hb
  cases F.wd (k,())==0
  ·cases (d.size:Int) != IntKind.i64.wrap (6+IntKind.i64.wrap (2*F.wd (k,())))
   ·intro h;cases h
   ·intro _;rfl
  ·intro _;rfl
 exact .seq (A0a (E:={gam:=G0d F}) hG (M4y F k d)) (.seq (A0a (E:={gam:=G0d F}) hG (M4z F k d)) (A0b.seqR (A0a (E:={gam:=G0d F}) hG hq2)))
end
def RD:P0j:={wd:=D1j,rt:=fun p=>A0z p.1,pt:=op3 G0m,vn:=E0t opsF,vu:=N0q opsF}
theorem A4v:GamOk Tryz.prog (G0d RD):=.cons N3u (.cons ok40 (.cons M2z (.cons ok66 (.cons ok68 .nil))))
def C0j:Fr×Unit→Two Rdg Bool:=Q1q RD
theorem L1e{k:Int}{d:ByteArray}(hb:P0h RD k d=false):(k=1∧d.size=12)∨(k=3∧d.size=12)∨(k=2∧d.size=18):=by
 have hw:RD.wd (k,())=D1j (k,()):=rfl
 unfold P0h at hb
 rw[hw]at hb
 by_cases h1:k=1
 ·subst h1
  refine .inl ⟨rfl,?_⟩
  have:((d.size:Int) != 12)=false:=hb
  simp at this
  omega
 by_cases h3:k=3
 ·subst h3
  refine .inr (.inl ⟨rfl,?_⟩)
  have:((d.size:Int) != 12)=false:=hb
  simp at this
  omega
 by_cases h2:k=2
 ·subst h2
  refine .inr (.inr ⟨rfl,?_⟩)
  have:((d.size:Int) != 18)=false:=hb
  simp at this
  omega
 ·have e:D1j (k,())=0:=by
   unfold D1j
   dsimp only
   rw[beq_eq_false_iff_ne.2 h1,beq_eq_false_iff_ne.2 h3,beq_eq_false_iff_ne.2 h2]
   rfl
  rw[e]at hb
  cases hb
theorem L4k:A0h Tryz.prog 164 (S0 C0j):=by
 intro args cs r cs' hs
 obtain ⟨⟨⟨k,d⟩,_⟩,rfl,rfl,rfl,rfl⟩:=W1w hs
 cases hb:P0h RD k d with
 | true =>
  have e:C0j (⟨k,d⟩,())=⟨⟨0,0,⟨0,0,0⟩⟩,false⟩:=by unfold C0j Q1q;dsimp only;rw[hb];rfl
  rw[e]
  exact E0k E2t M4w rd_N (by show 1≤165;omega) (by simp) rfl rfl rfl (.inr rfl) (M4u A4v k d hb) (Q3d ..) rfl rfl (fun _ _ h=>by simp at h) rfl rfl
 | false =>
  obtain ⟨r,b,h1,h2⟩:=M4t A4v k d hb (L1e hb)
  have e:C0j (⟨k,d⟩,())=⟨r,b⟩:=h2
  rw[e]
  exact E0k E2t M4w rd_N (by show 1≤165;omega) (by simp) rfl rfl rfl (.inr rfl) h1 (Q3e ..) rfl rfl (fun _ _ h=>by simp at h) rfl rfl
def HR:U0e:={rj:=rejX,rd:=C0j,fr:=D0y,od:=V0g}
theorem B5z:GamOk Tryz.prog (hrG HR):=.cons Y1k (.cons L4k (.cons N3e (.cons X2w .nil)))
def ST:U0j:={rt:=fun p=>A0z p.1,hp:=H2e,he:=W0v HR,bp:=W1j,bd:=R2g,lk:=K1c,fi:=J0p,pl:=N0h,dp:=E1m opsF,ct:=E0w,wr:=R0x,wp:=fun p=>K0d p.1}
theorem C5e:GamOk Tryz.prog (H3c ST):=.cons ok40 (.cons (K4x B5z) (.cons ok58 (.cons L4b (.cons X2t (.cons L4h (.cons ok60 (.cons X2p (.cons N3v (.cons (D3r L4p) .nil)))))))))
def B0y(p:StpA):Bool:=J0z ST p
def D0d(p:StpA):Two Crf ByteArray:=X0q ST p
theorem K1m:A0h Tryz.prog 25 (S0w B0y D0d):=L4n C5e
theorem T2w(f:Fr)(hk:0≤f.kind∧f.kind≤255)(hd:f.data.size≤64):∃l,(K0d f).a=bsL (165 :: l):=by
 unfold K0d
 rw[decide_eq_false (by omega),decide_eq_false (by omega),decide_eq_false (by omega)]
 exact ⟨_,rfl⟩
theorem M0z(t:Tl):(D0g t).size=26:=by kernel_rfl
theorem H1n(t:Tl):(0≤(R0x (t,())).a.kind∧(R0x (t,())).a.kind≤255)∧(R0x (t,())).a.data.size≤64:=by
 unfold R0x
 dsimp only
 cases E0m t
 ·exact ⟨⟨by show (0:Int)≤0;decide,by show (0:Int)≤255;decide⟩,by show (0:Nat)≤64;omega⟩
 ·refine ⟨⟨by show (0:Int)≤32;decide,by show (32:Int)≤255;decide⟩,?_⟩
  show (D0g t).size≤64
  rw[M0z]
  omega
theorem R1c(x:CX):∃l,cstT ST x=bsL (165 :: l):=by
 have h:∀m,∃l,teB ST x m=bsL (165 :: l):=fun m=>T2w _ (H1n _).1 (H1n _).2
 unfold cstT
 cases x.2.1.plan.mode==0
 ·exact h _
 ·exact h _
theorem L1z{t:Int}(h:A0z t=true):0≤t∧t≤157766400000:=by
 unfold A0z at h
 cases h0:decide (0≤t) with
 | false=>rw[h0]at h;cases h
 | true =>
  rw[h0,cond_true]at h
  exact ⟨of_decide_eq_true h0,of_decide_eq_true h⟩
theorem L0d(t:Tl)(i:Nat)(x:Int)(hx:(D1n t)[i]?=some (IntKind.u8.wrap x)):byT (D0g t) i=x % 256:=by rw[W3d t i _ hx,R3y]
theorem P2k(x:Int):x.fdiv (2^40)=x / 1099511627776∧x.fdiv (2^32)=x / 4294967296∧x.fdiv (2^24)=x / 16777216∧x.fdiv (2^16)=x / 65536∧x.fdiv (2^8)=x / 256∧x.fdiv (2^0)=x:=by
 refine ⟨fd _ _ (by decide),fd _ _ (by decide),fd _ _ (by decide),fd _ _ (by decide),fd _ _ (by decide),?_⟩
 rw[fd _ _ (by decide)]
 show x / 1=x
 omega
theorem U2v{t:Tl}(h:TlIn t):tkD (D0g t) (tkD (D0g t) (tkD (D0g t) (tkD (D0g t) (tkD (D0g t) (tkD (D0g t) 0 0) 1) 2) 3) 4) 5=t.tk:=by
 obtain ⟨h0,h1⟩:=L1z h.tk
 obtain ⟨f0,f1,f2,f3,f4,f5⟩:=P2k t.tk
 have b0:=L0d t 0 (t.tk.fdiv (2^40)) rfl
 have b1:=L0d t 1 (t.tk.fdiv (2^32)) rfl
 have b2:=L0d t 2 (t.tk.fdiv (2^24)) rfl
 have b3:=L0d t 3 (t.tk.fdiv (2^16)) rfl
 have b4:=L0d t 4 (t.tk.fdiv (2^8)) rfl
 have b5:=L0d t 5 (t.tk.fdiv (2^0)) rfl
 rw[f0]at b0
 rw[f1]at b1
 rw[f2]at b2
 rw[f3]at b3
 rw[f4]at b4
 rw[f5]at b5
 have r0:=K0m (D0g t) 0
 have r1:=K0m (D0g t) 1
 have r2:=K0m (D0g t) 2
 have r3:=K0m (D0g t) 3
 have r4:=K0m (D0g t) 4
 have r5:=K0m (D0g t) 5
 rw[H1k (D0g t) 0 0 (by omega) (by omega)]
 rw[H1k (D0g t) _ 1 (by omega) (by omega)]
 rw[H1k (D0g t) _ 2 (by omega) (by omega)]
 rw[H1k (D0g t) _ 3 (by omega) (by omega)]
 rw[H1k (D0g t) _ 4 (by omega) (by omega)]
 rw[H1k (D0g t) _ 5 (by omega) (by omega)]
 have :=R2u h0 (by omega) b0 b1 b2 b3 b4 b5
 omega
theorem U0n{x:Int}(h:0≤x∧x≤255)(t:Tl)(i:Nat)(hx:(D1n t)[i]?=some (IntKind.u8.wrap x)):wI (byT (D0g t) i)=x:=by
 rw[L0d t i x hx,K0c (by omega) (by omega)]
 omega
theorem E3z{t:Tl}(h:TlIn t):wI (wI (wI (byT (D0g t) 10)*256)+wI (byT (D0g t) 11))=t.rej:=by
 obtain ⟨h0,h1⟩:=h.rej
 have b0:=L0d t 10 (t.rej.fdiv (2^8)) rfl
 have b1:=L0d t 11 t.rej rfl
 rw[(P2k t.rej).2.2.2.2.1]at b0
 have e1:=K0c (x:=byT (D0g t) 10) (by omega) (by omega)
 have e2:=K0c (x:=byT (D0g t) 11) (by omega) (by omega)
 have e3:=K0c (x:=byT (D0g t) 10*256) (by omega) (by omega)
 rw[e1,e2,e3,K0c (by omega) (by omega)]
 omega
theorem T0e{q:Int}(h:-32768≤q∧q≤32767)(t:Tl)(i:Nat)(hi:i<100)(h1:(D1n t)[i]?=some (IntKind.u8.wrap (q.fdiv (2^8))))(h2:(D1n t)[i+1]?=some (IntKind.u8.wrap q)):cntT (D0g t,(i:Int),())=q:=by
 refine U2j h (D0g t) i hi ?_ (L0d t (i+1) q h2)
 rw[L0d t i _ h1,(P2k q).2.2.2.2.1]
theorem X3v{t:Tl}(h:TlIn t):decT cntT (D0g t)=t:=by
 unfold decT
 rw[U2v h,U0n ⟨h.mode.1,by have :=h.mode.2;omega⟩ t 6 rfl,U0n ⟨h.faults.1,by have :=h.faults.2;omega⟩ t 7 rfl,U0n h.ack t 8 rfl,U0n h.err t 9 rfl,E3z h]
 have c0:=T0e h.q0 t 12 (by omega) rfl rfl
 have c1:=T0e h.q1 t 14 (by omega) rfl rfl
 have c2:=T0e h.q2 t 16 (by omega) rfl rfl
 have c3:=T0e h.q3 t 18 (by omega) rfl rfl
 have c4:=T0e h.d0 t 20 (by omega) rfl rfl
 have c5:=T0e h.d1 t 22 (by omega) rfl rfl
 have c6:=T0e h.d2 t 24 (by omega) rfl rfl
 rw[show (12:Int)=((12:Nat):Int) from rfl,c0,show (14:Int)=((14:Nat):Int) from rfl,c1,show (16:Int)=((16:Nat):Int) from rfl,c2,show (18:Int)=((18:Nat):Int) from rfl,c3,
  show (20:Int)=((20:Nat):Int) from rfl,c4,show (22:Int)=((22:Nat):Int) from rfl,c5,show (24:Int)=((24:Nat):Int) from rfl,c6]
theorem J0q{n l m:Int}(h:l≤n∧n≤m):inV (n,l,m,())=true:=by
 unfold inV
 dsimp only
 rw[decide_eq_true h.1,decide_eq_true h.2]
 rfl
theorem Z2a{t:Tl}(h:TlIn t):C1g t=true:=by
 unfold C1g C3x
 dsimp only
 rw[h.tk,J0q h.mode,J0q h.faults,J0q h.ack,J0q h.err,J0q h.rej,J0q h.q0,J0q h.q1,J0q h.q2,J0q h.q3,J0q h.d0,J0q h.d1,J0q h.d2]
 rfl
theorem Q2a{t:Tl}(h:E0m t=true):R0t (D0g t)=⟨t,true⟩:=by
 have h:=C2a h
 unfold R0t
 rw[X3v h,Z2a h]
 rfl
def R3u(op:ByteArray×Unit→Two Fr Bool)(rd:Fr×Unit→Two Tl Bool)(s:ByteArray):Two Tl Bool:=⟨(rd ((op (s,())).a,())).a,bif (op (s,())).b then (rd ((op (s,())).a,())).b else false⟩
theorem Q4w(op:ByteArray×Unit→Two Fr Bool)(po:ByteArray×Unit→Bool)(rd:Fr×Unit→Two Tl Bool)(pr:Fr×Unit→Bool)(s:ByteArray):fnSum Tryz.prog {gam:=[(29,S0w po op),(30,S0c pr rd)]} [] 20 44 [.val (.string s)] [] =
  bif po (s,()) then bif pr ((op (s,())).a,()) then bif (op (s,())).b then some (.val (Cod.enc (Two.mk (rd ((op (s,())).a,())).a (rd ((op (s,())).a,())).b)),[]) else some (.val (Cod.enc (Two.mk (rd ((op (s,())).a,())).a false)),[]) else none else none:=by kernel_rfl
structure PlIn(p:Pl):Prop where
 mode:0≤p.mode∧p.mode≤3
 calm:0≤p.calm∧p.calm≤2
 good:0≤p.good∧p.good≤1
 miss:0≤p.miss∧p.miss≤4
 lost:0≤p.lost∧p.lost≤2
 faults:0≤p.faults∧p.faults≤15
theorem L4y:∀n:Fin 16,(0≤orV n.val 1∧orV n.val 1≤15)∧(0≤orV n.val 2∧orV n.val 2≤15)∧(0≤orV n.val 4∧orV n.val 4≤15)∧(0≤orV n.val 8∧orV n.val 8≤15):=by decide +kernel
theorem Y1q{f:Int}(h:0≤f∧f≤15):(0≤orV f 1∧orV f 1≤15)∧(0≤orV f 2∧orV f 2≤15)∧(0≤orV f 4∧orV f 4≤15)∧(0≤orV f 8∧orV f 8≤15):=by
 obtain ⟨n,rfl⟩:∃n:Nat,f=n:=⟨f.toNat,by omega⟩
 exact L4y ⟨n,by omega⟩
theorem Y0y{m f:Int}(hm:0≤m∧m≤3)(hf:0≤f∧f≤15):PlIn (toV m f):=⟨hm,by show (0:Int)≤0∧(0:Int)≤2;omega,by show (0:Int)≤0∧(0:Int)≤1;omega,by show (0:Int)≤0∧(0:Int)≤4;omega,by show (0:Int)≤0∧(0:Int)≤2;omega,hf⟩
theorem X1e{n k:Int}(h0:0≤n)(h1:n≤50)(hk:¬ cntV n≥k)(_:k≤50):0≤cntV n∧cntV n<k:=by
 unfold cntV at hk ⊢
 rw[decide_eq_false (by omega),cond_false]at hk ⊢
 rw[C0k]at hk ⊢
 omega
theorem L3r{p:Pl}(h:PlIn p)(s:Sn):PlIn (H0v p s):=by
 obtain ⟨o1,o2,o4,o8⟩:=Y1q h.faults
 have hm:=h.mode
 have hc:=h.calm
 have hg:=h.good
 have hi:=h.miss
 have hl:=h.lost
 have hf:=h.faults
 unfold H0v
 cases s.order==1 with
 | true=>exact Y0y (by omega) hf
 | false =>
 rw[cond_false]
 cases p.mode==3 with
 | true =>
  rw[cond_true]
  cases s.order==2 with
  | true=>exact Y0y (by omega) (by omega)
  | false=>exact h
 | false =>
 rw[cond_false]
 cases p.mode==0 with
 | true =>
  rw[cond_true]
  cases s.gyro&&s.slow with
  | true =>
   simp only[cond_true]
   cases hd:decide (cntV p.calm≥3) with
   | true=>exact Y0y (by omega) hf
   | false =>
    have :=X1e (by omega) (by omega) (of_decide_eq_false hd) (by omega)
    exact ⟨hm,by show 0≤cntV p.calm∧cntV p.calm≤2;omega,hg,hi,hl,hf⟩
  | false=>exact ⟨hm,by show (0:Int)≤0∧(0:Int)≤2;omega,hg,hi,hl,hf⟩
 | false =>
 rw[cond_false]
 cases p.mode==1 with
 | true =>
  rw[cond_true]
  cases s.gap with
  | true=>exact Y0y (by omega) o1
  | false =>
  rw[cond_false]
  cases s.gyro&&!s.slow with
  | true=>exact Y0y (by omega) hf
  | false =>
  rw[cond_false]
  cases s.gyro&&(s.pair&&s.lit) with
  | true =>
   simp only[cond_true]
   cases hd:decide (cntV p.good≥2) with
   | true=>exact Y0y (by omega) hf
   | false =>
    have :=X1e (by omega) (by omega) (of_decide_eq_false hd) (by omega)
    exact ⟨hm,hc,by show 0≤cntV p.good∧cntV p.good≤1;omega,hi,hl,hf⟩
  | false=>exact ⟨hm,hc,by show (0:Int)≤0∧(0:Int)≤1;omega,hi,hl,hf⟩
 | false =>
 rw[cond_false]
 cases p.mode==2 with
 | false=>exact Y0y (by omega) hf
 | true =>
 rw[cond_true]
 unfold G2d
 cases s.gap with
 | true=>exact Y0y (by omega) o1
 | false =>
 rw[cond_false]
 cases s.bad with
 | true=>exact Y0y (by omega) o4
 | false =>
 rw[cond_false]
 have key:∀lost:Int,(¬ lost≥3→0≤lost∧lost≤2)→PlIn (bif decide (lost≥3) then toV 1 (orV p.faults 2) else bif s.pair&&s.lit then
    let miss:=bif s.pass then 0 else cntV p.miss
    bif decide (miss≥5) then toV 1 (orV p.faults 8) else ⟨p.mode,p.calm,p.good,miss,lost,p.faults⟩
   else ⟨p.mode,p.calm,p.good,p.miss,lost,p.faults⟩):=by
  intro lost hlo
  cases hd:decide (lost≥3) with
  | true=>exact Y0y (by omega) o2
  | false =>
   have hlo:=hlo (of_decide_eq_false hd)
   rw[cond_false]
   cases s.pair&&s.lit with
   | false=>exact ⟨hm,hc,hg,hi,hlo,hf⟩
   | true =>
    simp only[cond_true]
    cases s.pass with
    | true=>exact ⟨hm,hc,hg,by show (0:Int)≤0∧(0:Int)≤4;omega,hlo,hf⟩
    | false =>
     simp only[cond_false]
     cases hd2:decide (cntV p.miss≥5) with
     | true=>exact Y0y (by omega) o8
     | false =>
      have :=X1e (by omega) (by omega) (of_decide_eq_false hd2) (by omega)
      exact ⟨hm,hc,hg,by show 0≤cntV p.miss∧cntV p.miss≤4;omega,hlo,hf⟩
 cases s.gyro with
 | true=>exact key 0 fun _=>by omega
 | false =>
  refine key (cntV p.lost) fun hn=>?_
  have :=X1e (by omega) (by omega) hn (by omega)
  omega
structure XIn(tk gap:Int)(g:Bool)(m:Int)(N:Nat)(x:CX):Prop where
 lsz:x.2.1.left.size≤N
 stk:x.1.tk=tk
 sgap:x.1.gap=gap
 seen:x.1.seen.gap=g
 mode:x.2.1.plan.mode=m
 pl:PlIn x.2.1.plan
 rej:0≤x.2.1.rej∧x.2.1.rej≤65535
 ack:0≤x.2.1.ack∧x.2.1.ack≤255
 err:0≤x.2.1.err∧x.2.1.err≤3
 dt:i64? x.2.1.drift.tick=true
 r3:x.2.2.p3=true→A0z x.2.2.r3.tk=true
theorem N4h{n:Int}(h:0≤n∧n≤65535):0≤rejV n∧rejV n≤65535:=by
 unfold rejV
 split<;>(rw[C0k];omega)
theorem XIn.rejd{tk gap m:Int}{g:Bool}{N:Nat}{x:CX}(h:XIn tk gap g m N x):XIn tk gap g m N (rejX x):={h with rej:=N4h h.rej}
theorem W3c(d:ByteArray)(i:Nat):0≤IntKind.i64.wrap (byA d i)∧IntKind.i64.wrap (byA d i)≤255:=by
 unfold byA
 have :=(d.data.toList.getD i 0).toNat_lt
 rw[C0k]
 omega
theorem L4z(p:Fr×Unit):(0≤(ordV p).a.seq∧(ordV p).a.seq≤255)∧(0≤(ordV p).b∧(ordV p).b≤3):=by
 have hb:=W3c p.1.data 0
 have key:∀(c:Bool) (x y:Two Odr Int),((0≤x.a.seq∧x.a.seq≤255)∧(0≤x.b∧x.b≤3))→((0≤y.a.seq∧y.a.seq≤255)∧(0≤y.b∧y.b≤3))→((0≤(bif c then x else y).a.seq∧(bif c then x else y).a.seq≤255)∧(0≤(bif c then x else y).b∧(bif c then x else y).b≤3)):=by
  intro c x y hx hy
  cases c
  ·exact hy
  ·exact hx
 have z:∀e:Int,0≤e→e≤3→(0≤(Two.mk odr0 e).a.seq∧(Two.mk odr0 e).a.seq≤255)∧(0≤(Two.mk odr0 e).b∧(Two.mk odr0 e).b≤3):=fun e h0 h1=>⟨⟨by show (0:Int)≤0;omega,by show (0:Int)≤255;omega⟩,h0,h1⟩
 unfold ordV ordO
 exact key _ _ _ (z 1 (by omega) (by omega)) (key _ _ _ (z 1 (by omega) (by omega)) (key _ _ _ ⟨hb,by show (0:Int)≤2∧(2:Int)≤3;omega⟩ (key _ _ _ ⟨hb,by show (0:Int)≤1∧(1:Int)≤3;omega⟩ (key _ _ _ (key _ _ _ ⟨hb,by show (0:Int)≤3∧(3:Int)≤3;omega⟩ ⟨hb,by show (0:Int)≤0∧(0:Int)≤3;omega⟩) ⟨hb,by show (0:Int)≤0∧(0:Int)≤3;omega⟩))))
theorem XIn.order{tk gap m:Int}{g:Bool}{N:Nat}{x:CX}(h:XIn tk gap g m N x)(f:Fr×Unit):XIn tk gap g m N (V0g x f):=by
 have hc:∀(c:Bool) (y z:CX),XIn tk gap g m N y→XIn tk gap g m N z→XIn tk gap g m N (bif c then y else z):=by
  intro c y z hy hz
  cases c
  ·exact hz
  ·exact hy
 have ho:=L4z f
 have ha:XIn tk gap g m N (ackX x (ordV f)):={h with ack:=ho.1,err:=ho.2}
 unfold V0g Q1c
 exact hc _ _ _ ha.rejd (hc _ _ _ {ha with} (hc _ _ _ {ha with} (hc _ _ _ {ha with} (hc _ _ _ {ha with rej:=by show (0:Int)≤0∧(0:Int)≤65535;omega,pl:=⟨h.pl.mode,h.pl.calm,h.pl.good,h.pl.miss,h.pl.lost,by show (0:Int)≤0∧(0:Int)≤15;omega⟩} ha))))
theorem P2z(d:ByteArray)(h:(C0j (⟨3,d⟩,())).b=true):A0z (C0j (⟨3,d⟩,())).a.tk=true:=by
 have e:C0j (⟨3,d⟩,())=bif P0h RD 3 d then ⟨⟨0,0,⟨0,0,0⟩⟩,false⟩ else bif !(rdT4 RD 3 d).ok then ⟨⟨0,0,⟨0,0,0⟩⟩,false⟩ else ⟨⟨3,G0y d,(rdT4 RD 3 d).v⟩,true⟩:=rfl
 rw[e]at h ⊢
 revert h
 cases P0h RD 3 d with
 | true=>intro h;cases h
 | false =>
  have h3:(A0k (rdRo RD 3 (d.extract 6 d.size)) 0 3 (rdT0 RD (G0y d))).ok=(rdT0 RD (G0y d)).ok:=rfl
  cases ht:A0z (G0y d) with
  | true =>
   cases (rdT4 RD 3 d).ok with
   | true=>intro _;exact ht
   | false=>intro h;cases h
  | false =>
   have h0:(rdT0 RD (G0y d)).ok=false:=ht
   rw[h0]at h3
   have hok:(rdT4 RD 3 d).ok=false:=by
    unfold rdT4 rdEn
    rw[show ((3:Int)==1)=false from rfl,show ((3:Int)==2)=false from rfl,cond_false,cond_false,h3]
    rfl
   rw[hok]
   intro h
   cases h
theorem XIn.hear{tk gap m:Int}{g:Bool}{N:Nat}{x:CX}(h:XIn tk gap g m N x)(f:Fr):XIn tk gap g m N (N0d HR x f):=by
 have hc:∀(c:Bool) (y z:CX),(c=true→XIn tk gap g m N y)→XIn tk gap g m N z→XIn tk gap g m N (bif c then y else z):=by
  intro c y z hy hz
  cases c
  ·exact hz
  ·exact hy rfl
 have sens:∀p:CX,((C0j (f,())).b=true→XIn tk gap g m N p)→XIn tk gap g m N (X0p HR x f p):=fun p hp=>by
  unfold X0p
  exact hc _ _ _ (fun hb=>hc _ _ _ (fun _=>hp hb) h.rejd) h.rejd
 unfold N0d
 refine hc _ _ _ (fun _=>sens _ fun _=>{h with}) (hc _ _ _ (fun _=>sens _ fun _=>{h with}) (hc _ _ _ (fun h3=>sens _ fun hb=>{h with r3:=fun _=>?_}) (hc _ _ _ (fun _=>h.order _) h.rejd)))
 obtain ⟨k,d⟩:=f
 have hk:k=3:=by simpa using h3
 subst hk
 exact P2z d hb
theorem XIn.hears{tk gap m:Int}{g:Bool}{N:Nat}:∀(fs:List Fr) {x:CX},XIn tk gap g m N x→XIn tk gap g m N (fs.foldl (N0d HR) x)
 | [],_,h=>h
 | f :: fs,_,h=>XIn.hears fs (h.hear f)
theorem Q2h:∀(n:Nat) (l:List UInt8),l.length≤n→(B0w l).2.1.length≤l.length:=by
 intro n
 induction n with
 | zero =>
  intro l h
  have:l=[]:=List.eq_nil_of_length_eq_zero (by omega)
  subst this
  rw[L0y]
  exact Nat.le_refl _
 | succ n ih =>
  intro l h
  cases l with
  | nil=>rw[L0y];exact Nat.le_refl _
  | cons b r =>
   have hr:r.length≤n:=by simpa using h
   have hskip:∀x:Scd,(N0m x).2.1=x.2.1:=fun _=>rfl
   by_cases hb:b=165
   ·subst hb
    rw[Z0e]
    have h1:=ih r hr
    split
    ·simp
    ·split
     ·rw[hskip,List.length_cons];omega
     ·split
      ·simp
      ·split
       ·rename_i h3 _ _ _
        have hl:((165 :: r:List UInt8).drop (((165 :: r:List UInt8).getD 2 0).toNat+5)).length≤n:=by rw[List.length_drop];simp only[List.length_cons]at h3 ⊢;omega
        have h2:=ih _ hl
        unfold D1p
        dsimp only
        rw[List.length_drop]at h2
        simp only[List.length_cons]at h3 h2 ⊢
        omega
       ·rw[hskip,List.length_cons];omega
   ·rw[M0w hb,hskip,List.length_cons]
    have :=ih r hr
    omega
theorem XIn.heard{tk gap m:Int}{g:Bool}{N:Nat}{x:CX}(h:XIn tk gap g m N x)(b:ByteArray)(hN:x.2.1.left.size+b.size≤N):XIn tk gap g m N (W0v HR x (b,())):=by
 unfold W0v A2g
 refine XIn.hears _ ?_
 unfold H0z
 have h0:∀l:ByteArray,l.size≤N→XIn tk gap g m N (x.1,{x.2.1 with left:=l},x.2.2):=fun l hl=>{h with lsz:=hl}
 have hs:(bsL (B0w (x.2.1.left++b).data.toList).2.1).size≤N:=by
  rw[B0z]
  have h1:=Q2h _ (x.2.1.left++b).data.toList (Nat.le_refl _)
  have h2:(x.2.1.left++b).data.toList.length=(x.2.1.left++b).size:=rfl
  have h3:(x.2.1.left++b).size=x.2.1.left.size+b.size:=ByteArray.size_append
  omega
 cases decide ((_:Int)>0)
 ·exact h0 _ hs
 ·exact (h0 _ hs).rejd
structure CIn(c:Crf):Prop where
 pl:PlIn c.plan
 rej:0≤c.rej∧c.rej≤65535
 ack:0≤c.ack∧c.ack≤255
 err:0≤c.err∧c.err≤3
 dt:i64? c.drift.tick=true
 tk:0≤c.tk∧c.tk≤157766400000
section
variable {tk gap m:Int} {g:Bool} {N:Nat}
theorem XIn.cond{c:Bool}{y z:CX}(hy:XIn tk gap g m N y)(hz:XIn tk gap g m N z):XIn tk gap g m N (bif c then y else z):=by
 cases c
 ·exact hz
 ·exact hy
theorem CIn.start{c:Crf}(h:CIn c)(tk:Int){N:Nat}(hN:c.left.size≤N):XIn tk (gapV c tk) (gapV c tk==0) c.plan.mode N (stp1 c tk,c,rds0):=⟨hN,rfl,rfl,rfl,rfl,h.pl,h.rej,h.ack,h.err,h.dt,fun h=>by cases h⟩
theorem XIn.driftOk{x:CX}(h:XIn tk gap g m N x):driftOk ST x=true:=by
 unfold Go.Ab.driftOk
 cases hp:x.2.2.p3 with
 | false=>rfl
 | true =>
  rw[cond_true]
  show (i64? x.2.1.drift.tick&&i64? x.2.2.r3.tk)=true
  rw[h.dt]
  obtain ⟨h0,h1⟩:=L1z (h.r3 hp)
  exact decide_eq_true (by omega)
theorem B2x(d:Dr)(u:V3)(t:Int)(ht:i64? t=true):i64? (R2g false (d,u,t,())).1.tick=true:=by
 have hc:∀(c:Bool) (y z:Dr×Bool),i64? y.1.tick=true→i64? z.1.tick=true→i64? (bif c then y else z).1.tick=true:=by
  intro c y z hy hz
  cases c
  ·exact hz
  ·exact hy
 unfold R2g
 exact hc _ _ _ (hc _ _ _ rfl ht) (hc _ _ _ rfl ht)
theorem XIn.drifted{x:CX}(h:XIn tk gap g m N x):XIn tk gap g m N (cstD ST x):=by
 unfold cstD
 cases hp:x.2.2.p3 with
 | false=>exact h
 | true =>
  rw[cond_true]
  refine {h with dt:=B2x _ _ _ ?_}
  obtain ⟨h0,h1⟩:=L1z (h.r3 hp)
  exact decide_eq_true (by omega)
theorem XIn.looked{x:CX}(h:XIn tk gap g m N x):XIn tk gap g m N (K1c x):=by
 have hP:∀{y:CX} (fl:Bool),XIn tk gap g m N y→XIn tk gap g m N (lkPX LK y fl):=by
  intro y fl hy
  have hB:∀a b p,XIn tk gap g m N (lkBX y a b p):=fun a b p=>{hy with}
  unfold lkPX
  exact .cond (.cond (.cond (hB ..) (hB ..)) (hB ..)) (.cond (hB ..) (hB ..))
 have hS:∀{y:CX} (a b c:V3×Bool),XIn tk gap g m N y→XIn tk gap g m N (lkSX LK y a b c):=by
  intro y a b c hy
  unfold lkSX
  exact .cond {hy with} (hP _ {hy with})
 have hG:∀{y:CX},XIn tk gap g m N y→XIn tk gap g m N (lkGX LK y):=by
  intro y hy
  unfold lkGX
  exact .cond hy (hS _ _ _ hy)
 unfold K1c J3h
 exact .cond (hG {h with}) (hG {h with})
theorem XIn.filtered{x:CX}(h:XIn tk gap g m N x):XIn tk gap g m N (J0p x):=by
 have hE:∀{y:CX} (a:Gs) (p f:Bool),XIn tk gap g m N y→XIn tk gap g m N (N0v C0y y a p f):=by
  intro y a p f hy
  unfold N0v
  exact .cond {hy with} {hy with}
 have hM:∀{y:CX} (a:Gs×Bool),XIn tk gap g m N y→XIn tk gap g m N (N0w D1r C0y y a):=by
  intro y a hy
  unfold N0w
  exact .cond (.cond (hE _ _ _ hy) (hE _ _ _ hy)) (hE _ _ _ hy)
 unfold J0p V2j
 exact .cond (.cond (hM _ h) (hM _ h)) (hM _ h)
theorem XIn.fined{x:CX}(h:XIn tk gap g m N x):XIn tk gap g m N (cstF ST x):=by
 unfold cstF
 exact .cond (.cond h.filtered h) h
theorem XIn.ahead{x:CX}(h:XIn tk gap g m N x):XIn tk gap g m N (cstF ST (ST.lk (cstD ST x))):=h.drifted.looked.fined
structure C2t(x y:CX):Prop where
 s:y.1=x.1
 pl:PlIn y.2.1.plan
 rej:y.2.1.rej=x.2.1.rej
 ack:y.2.1.ack=x.2.1.ack
 err:y.2.1.err=x.2.1.err
 drift:y.2.1.drift=x.2.1.drift
 left:y.2.1.left=x.2.1.left
theorem K1y{x:CX}(h:XIn tk gap g m N x):C2t x (N0h x):=by
 have hn:=L3r h.pl x.1.seen
 have hf:=(Y1q hn.faults).2.2.1
 have a:∀gs,C2t x (x.1,{x.2.1 with plan:=H0v x.2.1.plan x.1.seen,guess:=gs},x.2.2):=fun gs=>⟨rfl,hn,rfl,rfl,rfl,rfl,rfl⟩
 have hc:∀{c:Bool} {y z:CX},C2t x y→C2t x z→C2t x (bif c then y else z):=by
  intro c y z hy hz
  cases c
  ·exact hz
  ·exact hy
 unfold N0h P2g
 refine hc (hc (hc ⟨rfl,Y0y (m:=1) (by omega) hf,rfl,rfl,rfl,rfl,rfl⟩ (hc (a _) (a _))) (hc (a _) (a x.2.1.guess))) (hc (a _) (a x.2.1.guess))
theorem X1m{x:CX}(h:XIn tk gap g m N x)(ht:A0z tk=true):CIn (endX ST tk x).2.1:=by
 have h1:=h.ahead
 have h2:=K1y h1
 obtain ⟨t0,t1⟩:=L1z ht
 unfold endX
 refine ⟨h2.pl,?_,?_,?_,?_,⟨t0,t1⟩⟩
 ·show 0≤(N0h _).2.1.rej∧(N0h _).2.1.rej≤65535
  rw[h2.rej]
  exact h1.rej
 ·show 0≤(N0h _).2.1.ack∧(N0h _).2.1.ack≤255
  rw[h2.ack]
  exact h1.ack
 ·show 0≤(N0h _).2.1.err∧(N0h _).2.1.err≤3
  rw[h2.err]
  exact h1.err
 ·show i64? (N0h _).2.1.drift.tick=true
  rw[h2.drift]
  exact h1.dt
theorem Z0c{x:CX}(h:XIn tk gap g m N x):(endX ST tk x).2.1.left.size≤N:=by
 have h1:=h.ahead
 have h2:=K1y h1
 unfold endX
 show (N0h _).2.1.left.size≤N
 rw[h2.left]
 exact h1.lsz
end
def H0h(x:CX):Tl:=P4v x.1 x.2.1 (E0w (x.2.1.guess.q,(bif x.2.1.plan.mode==0 then (E1m opsF false (x.2.1.drift,())).1 else V3.zero),()))
theorem E3n(p:V4×V3×Unit):N0b (E0w p).a.w=true∧N0b (E0w p).a.x=true∧N0b (E0w p).a.y=true∧N0b (E0w p).a.z=true∧N0b (E0w p).b.x=true∧N0b (E0w p).b.y=true∧N0b (E0w p).b.z=true:=by
 have z:N0b 0=true:=by kernel_rfl
 have e:E0w p=bif (cnt0 (op3 G0m) p.1 p.2.1).2 then ⟨V4.zero,V3.zero⟩ else bif !E0m (T1e (cnt0 (op3 G0m) p.1 p.2.1).1) then ⟨V4.zero,V3.zero⟩ else (cnt0 (op3 G0m) p.1 p.2.1).1:=rfl
 rw[e]
 cases (cnt0 (op3 G0m) p.1 p.2.1).2 with
 | true=>exact ⟨z,z,z,z,z,z,z⟩
 | false =>
  rw[cond_false]
  cases hr:E0m (T1e (cnt0 (op3 G0m) p.1 p.2.1).1) with
  | false=>exact ⟨z,z,z,z,z,z,z⟩
  | true =>
   unfold E0m tlOk at hr
   simp only[Bool.and_eq_true]at hr
   obtain ⟨h1,h2,h3,h4,h5,h6,h7,_⟩:=hr
   exact ⟨h1,h2,h3,h4,h5,h6,h7⟩
theorem T2g{x:Int}(h:0≤x∧x≤255):(x==IntKind.i64.wrap (IntKind.u8.wrap x))=true:=by
 have:IntKind.i64.wrap (IntKind.u8.wrap x)=x:=by rw[T2u,C0k];omega
 rw[this]
 exact beq_self_eq_true x
theorem A3u{x:Int}(h:0≤x∧x≤65535):(x==IntKind.i64.wrap (IntKind.u16.wrap x))=true:=by
 have e:IntKind.u16.wrap x=x % 65536:=by simp[IntKind.wrap,IntKind.bits,IntKind.signed]
 have:IntKind.i64.wrap (IntKind.u16.wrap x)=x:=by rw[e,C0k];omega
 rw[this]
 exact beq_self_eq_true x
theorem X0t{x:CX}(h:CIn x.2.1)(ht:A0z x.1.tk=true):E0m (H0h x)=true:=by
 obtain ⟨f1,f2,f3,f4,f5,f6,f7⟩:=E3n (x.2.1.guess.q,(bif x.2.1.plan.mode==0 then (E1m opsF false (x.2.1.drift,())).1 else V3.zero),())
 unfold E0m tlOk
 simp only[Bool.and_eq_true]
 exact ⟨f1,f2,f3,f4,f5,f6,f7,T2g h.ack,T2g ⟨h.err.1,by have :=h.err.2;show x.2.1.err≤255;omega⟩,ht,decide_eq_true h.pl.mode.1,decide_eq_true h.pl.mode.2,decide_eq_true h.pl.faults.1,decide_eq_true h.pl.faults.2,A3u h.rej⟩
theorem M1c{x:CX}(h:CIn x.2.1)(ht:A0z x.1.tk=true):cstT ST x=bsL (H0m 32 (D0g (H0h x)).data.toList):=by
 have hr:=X0t h ht
 have e:cstT ST x=(K0d (R0x (H0h x,())).a).a:=by
  unfold cstT H0h
  cases x.2.1.plan.mode==0<;>rfl
 have hw:R0x (H0h x,())=⟨⟨32,D0g (H0h x)⟩,true⟩:=by unfold R0x;dsimp only;rw[hr];rfl
 rw[e,hw]
 unfold K0d
 dsimp only
 rw[M0z]
 rfl
theorem G1v{k:Nat}{d:List UInt8}(hk:k≤255)(hd:d.length≤64):B0d (bsL (H0m k d))=⟨⟨k,bsL d⟩,true⟩:=by
 have hl:(bsL (H0m k d)).data.toList=165 :: UInt8.ofNat k :: UInt8.ofNat d.length :: (d++[UInt8.ofNat (crcF (G0j k d) 65535 / 256),UInt8.ofNat (crcF (G0j k d) 65535 % 256)]):=by rw[G0b];rfl
 rw[Y1p hl,if_pos ⟨hd,rfl,rfl,rfl,rfl⟩]
 have :=N0z (x:=k) (by omega)
 have e:((UInt8.ofNat k).toNat:Int)=(k:Int):=this
 rw[e]
def M1b(p:ByteArray×Unit):Two Tl Bool:=R3u (fun q=>B0d q.1) (fun q=>R0t q.1.data) p.1
def N0p(p:ByteArray×Unit):Bool:=szOk p&&N0j ((B0d p.1).a,())
theorem C3n:A0h Tryz.prog 44 (S0c N0p M1b):=C2u (E:={gam:=[(29,S0w szOk fun (q:ByteArray×Unit)=>B0d q.1),(30,S0c N0j fun (q:Fr×Unit)=>R0t q.1.data)]}) (.cons B1k (.cons N2c .nil)) 20 fun a h=>by
 obtain ⟨s,_⟩:=a
 unfold N0p at h
 simp only[Bool.and_eq_true]at h
 refine (Q4w (fun q=>B0d q.1) szOk (fun q=>R0t q.1.data) N0j s).trans ?_
 dsimp only
 rw[h.1,h.2,cond_true,cond_true]
 unfold M1b R3u
 dsimp only
 generalize R0t (B0d s).a.data=r
 cases (B0d s).b
 ·rfl
 ·rfl
theorem D1c{x:CX}(h:CIn x.2.1)(ht:A0z x.1.tk=true):N0p (cstT ST x,())=true∧M1b (cstT ST x,())=⟨H0h x,true⟩:=by
 have hd:(D0g (H0h x)).data.toList.length=26:=M0z (H0h x)
 have ho:B0d (cstT ST x)=⟨⟨32,D0g (H0h x)⟩,true⟩:=by
  have e:=G1v (k:=32) (d:=(D0g (H0h x)).data.toList) (by omega) (by omega)
  rw[H0y]at e
  rw[M1c h ht]
  exact e
 generalize hw:D0g (H0h x)=ws at *
 have hr:=Q2a (X0t h ht)
 rw[hw]at hr
 have hsz:ws.size=26:=hd
 constructor
 ·unfold N0p
  rw[ho]
  have h1:szOk (cstT ST x,())=true:=by
   refine decide_eq_true ?_
   show (cstT ST x).size≤_
   rw[M1c h ht,B0z,hw]
   unfold H0m G0j
   simp[hd]
  rw[h1]
  unfold N0j
  dsimp only
  rw[hsz]
  rfl
 ·unfold M1b R3u
  dsimp only
  rw[ho]
  dsimp only
  rw[hr]
  rfl
theorem X1n(x y:Int):fadd true x y=(0,true):=rfl
theorem X1r(x y:Int):fmul true x y=(0,true):=rfl
theorem U0t(x y z:Int):G0m true x y z=(0,true):=rfl
theorem V1j(u v:Nat→Int):∀(n k:Nat) (a:Int),(pmN opsF u v k n (a,true)).2=true
 | 0,_,_=>rfl
 | n+1,k,_=>V1j u v n (k+1) 0
abbrev Bad{α ω:Type}(g:Bool→α→ω×Bool):Prop:=∀a,(g true a).2=true
theorem V3y:Bad (vop fadd):=fun _=>rfl
theorem V3x:Bad qmul:=fun _=>rfl
theorem B3k:Bad (E0p opsF):=fun a=>by
 show (C1a opsF a.1 (qlen opsF true a.1).1 (bif decide ((qlen opsF true a.1).1<549755813888) then true else (qlen opsF true a.1).2)).2=true
 have h:(qlen opsF true a.1).2=true:=rfl
 rw[h]
 cases decide ((qlen opsF true a.1).1<549755813888)<;>rfl
theorem V3w:Bad frF:=fun a=>by
 have h:(Z2c opsF E0b true a.1).2=true:=rfl
 show (E0p opsF (Z2c opsF E0b true a.1).2 _).2=true
 rw[h]
 exact B3k _
theorem D2r:Bad tuF:=fun a=>by
 show (qmul (frF true (a.1,())).2 _).2=true
 rw[V3w]
 exact V3x _
theorem J0w{τ:Type}{P:Nat→τ×Bool→τ×Bool}(hP:∀i d,(P i (d,true)).2=true):∀(n i:Nat) (d:τ),(A0k P i n (d,true)).2=true
 | 0,_,_=>rfl
 | n+1,i,d=>by
  show (A0k P (i+1) n (P i (d,true))).2=true
  have h:=hP i d
  rcases hq:P i (d,true) with ⟨d1,f⟩
  rw[hq]at h
  have:f=true:=h
  subst this
  exact J0w hP n (i+1) d1
theorem B3g:Bad ptF:=fun a=>by
 show (Y2u opsF H2r (opsF.sqrt (G0t opsF true (a.1.p,6,())).2 7696581394432) _).2=true
 have h:(opsF.sqrt (G0t opsF true (a.1.p,6,())).2 7696581394432)=(0,true):=rfl
 rw[h]
 unfold Y2u
 exact Y1w ..
theorem B3h:Bad (G0t opsF):=fun a=>by
 show (byN M6.zero a.2.1 true _).2=true
 unfold byN
 cases okN a.2.1<;>rfl
theorem B3j:Bad (V0a opsF):=fun a=>by
 show (byN R6.zero a.2.2.1 true _).2=true
 unfold byN
 cases okN a.2.2.1<;>rfl
theorem C1b{a b c:Int}(hc:0<c):2*(a*b)-c≤2*c*R0r a b c∧2*c*R0r a b c≤2*(a*b)+c:=by
 have hcc:iabs c=c:=E0u (by omega)
 have hc0:decide (c<0)=false:=by simp;omega
 unfold R0r neg3
 rw[hcc,hc0,Bool.xor_false]
 obtain ⟨h1,h2⟩:=Z2b (N:=iabs a*iabs b) hc
 have hneg:∀r:Int,2*c*(0-r)=- (2*c*r):=fun r=>by rw[Int.zero_sub,Int.mul_neg]
 have ia:∀x:Int,x<0→iabs x=-x:=fun x h=>by unfold iabs;rw[decide_eq_true h,cond_true,Int.zero_sub]
 by_cases ha:a<0
 ·by_cases hb:b<0
  ·rw[ia a ha,ia b hb,Int.neg_mul_neg]at h1 h2 ⊢
   rw[decide_eq_true ha,decide_eq_true hb]
   exact ⟨h1,h2⟩
  ·rw[ia a ha,E0u (a:=b) (by omega),Int.neg_mul]at h1 h2 ⊢
   rw[decide_eq_true ha,decide_eq_false hb]
   show 2*(a*b)-c≤2*c*(0-rnd (-(a*b)) c)∧2*c*(0-rnd (-(a*b)) c)≤2*(a*b)+c
   rw[hneg]
   omega
 ·by_cases hb:b<0
  ·rw[E0u (a:=a) (by omega),ia b hb,Int.mul_neg]at h1 h2 ⊢
   rw[decide_eq_false ha,decide_eq_true hb]
   show 2*(a*b)-c≤2*c*(0-rnd (-(a*b)) c)∧2*c*(0-rnd (-(a*b)) c)≤2*(a*b)+c
   rw[hneg]
   omega
  ·rw[E0u (a:=a) (by omega),E0u (a:=b) (by omega)]at h1 h2 ⊢
   rw[decide_eq_false ha,decide_eq_false hb]
   exact ⟨h1,h2⟩
theorem E1v{a b c v:Int}(h:H0b false a b c=(v,false)):v=R0r a b c∧c≠0:=by
 unfold H0b at h
 generalize hc:(iabs c==0||decide (iabs a*iabs b / iabs c>4611686018427387904)||decide (rnd (iabs a*iabs b) (iabs c)>4611686018427387904))=t at h
 cases t with
 | true=>simp at h
 | false =>
  simp only[Bool.or_eq_false_iff,beq_eq_false_iff_ne]at hc
  rw[cond_false,Prod.mk.injEq]at h
  refine ⟨h.1.symm,fun h0=>hc.1.1 ?_⟩
  rw[h0];rfl
theorem G3t{a b v:Int}(h:fdiv false a b=(v,false)):v=R0r a 1099511627776 b∧num a=true∧num b=true∧b≠0:=by
 unfold fdiv at h
 cases hb:(false||!C0r [a,b]) with
 | true=>rw[hb]at h;simp at h
 | false =>
  obtain ⟨_,ha,hb'⟩:=L3y hb
  rw[hb,cond_false]at h
  exact ⟨(E1v h).1,ha,hb',(E1v h).2⟩
theorem E2x{a b v:Int}(hb:0<b)(h:fdiv false a b=(v,false)):2199023255552*a-b≤2*b*v∧2*b*v≤2199023255552*a+b:=by
 have :=C1b (a:=a) (b:=1099511627776) (c:=b) hb
 rw[← (G3t h).1]at this
 omega
theorem J1k{a b v:Int}(h:fadd false a b=(v,false)):v=a+b∧num a=true∧num b=true∧num v=true:=by
 unfold fadd at h
 generalize hc:(!false&&(num a&&(num b&&num (a+b))))=t at h
 cases t with
 | true =>
  simp only[Bool.not_false,Bool.true_and,Bool.and_eq_true]at hc
  rw[cond_true,Prod.mk.injEq]at h
  obtain ⟨rfl,_⟩:=h
  exact ⟨rfl,hc.1,hc.2.1,hc.2.2⟩
 | false=>simp at h
theorem K0t{x:Int}(h1:-4611686018427387904≤x)(h2:x≤4611686018427387904):num x=true:=G0e.2 ⟨h1,h2⟩
theorem Q0u{n x y:Int}(hn:0<n)(h:n*x≤n*y):x≤y:=Int.le_of_mul_le_mul_left h hn
theorem Z0b{x n:Int}(hx:num x=true)(h0:0<n)(hn:num n=true)(h:-n≤x∧x≤n) :
  ∃v,fdiv false x n=(v,false)∧(2199023255552*x-n≤2*n*v∧2*n*v≤2199023255552*x+n)∧-1099511627776≤v∧v≤1099511627776:=by
 have e:=Z1x hx hn h0 h
 have s:=E2x h0 e
 generalize R0r x 1099511627776 n=v at *
 refine ⟨v,e,s,?_,?_⟩
 ·have:n*(-2199023255553)≤n*(2*v):=by
   have:2*n*v=n*(2*v):=by grind
   omega
  have :=Q0u h0 this
  omega
 ·have:n*(2*v)≤n*2199023255553:=by
   have:2*n*v=n*(2*v):=by grind
   omega
  have :=Q0u h0 this
  omega
theorem J0h{x y K L:Int}(hx:-K≤x∧x≤K)(hy:-L≤y∧y≤L):-(K*L)≤x*y∧x*y≤K*L:=by
 have h1:0≤(K-x)*(L+y):=Int.mul_nonneg (by omega) (by omega)
 have h2:0≤(K+x)*(L-y):=Int.mul_nonneg (by omega) (by omega)
 have h3:0≤(K-x)*(L-y):=Int.mul_nonneg (by omega) (by omega)
 have h4:0≤(K+x)*(L+y):=Int.mul_nonneg (by omega) (by omega)
 constructor<;>grind
structure Up(K:Int)(v:V3):Prop where
 x:-K≤v.x∧v.x≤K
 y:-K≤v.y∧v.y≤K
 z:-K≤v.z∧v.z≤K
structure QU(u:V4):Prop where
 v:Up 1099511627776 u.v
 s:-1099511627776≤u.s∧u.s≤1099511627776
 lo:1208925819614629174706176-16492674416640≤u.v.x*u.v.x+u.v.y*u.v.y+u.v.z*u.v.z+u.s*u.s
 hi:u.v.x*u.v.x+u.v.y*u.v.y+u.v.z*u.v.z+u.s*u.s≤1208925819614629174706176+16492674416640
theorem P3v{a b c d r s t w n:Int}(hr:2199023255552*a-n≤2*n*r∧2*n*r≤2199023255552*a+n)(hs:2199023255552*b-n≤2*n*s∧2*n*s≤2199023255552*b+n)
  (ht:2199023255552*c-n≤2*n*t∧2*n*t≤2199023255552*c+n) (hw:2199023255552*d-n≤2*n*w∧2*n*w≤2199023255552*d+n)
  (pa:-n≤a∧a≤n) (pb:-n≤b∧b≤n) (pc:-n≤c∧c≤n) (pd:-n≤d∧d≤n) :
  n*n*(4*(r*r+s*s+t*t+w*w))≤4835703278458516698824704*(a*a+b*b+c*c+d*d)+n*n*17592186044420 ∧
  4835703278458516698824704*(a*a+b*b+c*c+d*d)-n*n*17592186044416≤n*n*(4*(r*r+s*s+t*t+w*w)):=by
 obtain ⟨X,hX⟩:∃X,X=2*n*r-2199023255552*a:=⟨_,rfl⟩
 obtain ⟨Y,hY⟩:∃Y,Y=2*n*s-2199023255552*b:=⟨_,rfl⟩
 obtain ⟨Z,hZ⟩:∃Z,Z=2*n*t-2199023255552*c:=⟨_,rfl⟩
 obtain ⟨V,hV⟩:∃V,V=2*n*w-2199023255552*d:=⟨_,rfl⟩
 have bX:-n≤X∧X≤n:=by omega
 have bY:-n≤Y∧Y≤n:=by omega
 have bZ:-n≤Z∧Z≤n:=by omega
 have bV:-n≤V∧V≤n:=by omega
 have m1:=J0h pa bX
 have m2:=J0h pb bY
 have m3:=J0h pc bZ
 have m4:=J0h pd bV
 have q1:=J0h bX bX
 have q2:=J0h bY bY
 have q3:=J0h bZ bZ
 have q4:=J0h bV bV
 have s1:=E0q X
 have s2:=E0q Y
 have s3:=E0q Z
 have s4:=E0q V
 have one:∀x y e:Int,e=2*n*x-2199023255552*y→n*n*(4*(x*x))=4835703278458516698824704*(y*y)+4398046511104*(y*e)+e*e:=by
  intro x y e he
  have h2:2*n*x=e+2199023255552*y:=by omega
  have h3:n*n*(4*(x*x))=(2*n*x)*(2*n*x):=by grind
  rw[h3,h2]
  grind
 have e1:=one r a X hX
 have e2:=one s b Y hY
 have e3:=one t c Z hZ
 have e4:=one w d V hV
 have key:n*n*(4*(r*r+s*s+t*t+w*w))=n*n*(4*(r*r))+n*n*(4*(s*s))+n*n*(4*(t*t))+n*n*(4*(w*w)):=by grind
 rw[key,e1,e2,e3,e4]
 generalize n*n=P at *
 omega
theorem Z0k{r:Int}(h:-1099511627776≤r∧r≤1099511627776):IntKind.i64.wrap (0-r)=-r:=by
 rw[A0q (by omega) (by omega)];omega
theorem L1b{q u:V4}(h:E0p opsF false (q,())=(u,false)):QU u:=by
 unfold E0p at h
 rcases hn:qlen opsF false q with ⟨n,f⟩
 rw[hn]at h
 dsimp only at h
 have hbad:∀m,C1a opsF q m true=(V4.zero,true):=fun m=>rfl
 by_cases h0:n<549755813888
 ·rw[decide_eq_true h0,cond_true,hbad]at h
  simp at h
 rw[decide_eq_false h0,cond_false]at h
 cases f with
 | true=>rw[hbad]at h;simp at h
 | false =>
  obtain ⟨_,⟨a1,a2,a3,a4⟩,p1,p2,p3,p4,n0,n1⟩:=P3u hn
  have hnn:num n=true:=G0e.2 (by omega)
  obtain ⟨r,er,sr,br⟩:=Z0b a1 (by omega) hnn p1
  obtain ⟨s,es,ss,bs⟩:=Z0b a2 (by omega) hnn p2
  obtain ⟨t,et,st,bt⟩:=Z0b a3 (by omega) hnn p3
  obtain ⟨w,ew,sw,bw⟩:=Z0b a4 (by omega) hnn p4
  have e0:V0m opsF q n false=(⟨r,s,t,w⟩,false):=by
   unfold V0m
   simp only[opsF]
   rw[er]
   dsimp only
   rw[es]
   dsimp only
   rw[et]
   dsimp only
   rw[ew]
  unfold C1a at h
  rw[e0]at h
  simp only[Prod.mk.injEq,and_true]at h
  -- the square of the length
  have hsum:1208925819614629174706176-16492674416640≤r*r+s*s+t*t+w*w∧r*r+s*s+t*t+w*w≤1208925819614629174706176+16492674416640:=by
   have hn':E0g (E0g false q.w q.x q.y).2 (E0g false q.w q.x q.y).1 q.z 0=(n,false):=hn
   rcases hm:E0g false q.w q.x q.y with ⟨m,g⟩
   rw[hm]at hn'
   cases g with
   | true=>rw[N0c]at hn';simp at hn'
   | false =>
    obtain ⟨m1,m2,_⟩:=J1n hm
    obtain ⟨k1,k2,_⟩:=J1n hn'
    obtain ⟨l1,_,_⟩:=T0h hn'
    obtain ⟨_,_,_,_,m0,_⟩:=U0q hm
    obtain ⟨c1,c2⟩:=P3v sr ss st sw p1 p2 p3 p4
    have e1:(m+1)*(m+1)=m*m+(2*m+1):=by grind
    have e2:(n+1)*(n+1)=n*n+(2*n+1):=by grind
    dsimp only at k1 k2
    rw[e1]at m2
    rw[e2]at k2
    have hp:0<n*n:=Int.mul_pos (by omega) (by omega)
    have hq:1208925819614629174706176*(4*n+1)≤n*n*10995116277760:=by
     have g1:n*n*10995116277760=1099511627776*(2*n)*(5*n):=by grind
     have g2:1099511627776*1099511627776*(5*n)≤1099511627776*(2*n)*(5*n):=Int.mul_le_mul_of_nonneg_right (by omega) (by omega)
     omega
    generalize r*r+s*s+t*t+w*w=U at *
    have hU:4*U≤4835703278458516698824704+61572651155460:=by
     refine Q0u hp ?_
     have:n*n*(4835703278458516698824704+61572651155460)=4835703278458516698824704*(n*n)+4*(n*n*10995116277760)+n*n*17592186044420:=by grind
     rw[this]
     omega
    have hL:4835703278458516698824704-17592186044416≤4*U:=by
     refine Q0u hp ?_
     have:n*n*(4835703278458516698824704-17592186044416)=4835703278458516698824704*(n*n)-n*n*17592186044416:=by grind
     rw[this]
     omega
    omega
  rw[← h]
  unfold plain
  dsimp only
  cases decide (w<0) with
  | false=>exact ⟨⟨br,bs,bt⟩,bw,hsum.1,hsum.2⟩
  | true =>
   have hneg:neg4 ⟨r,s,t,w⟩=⟨-r,-s,-t,-w⟩:=by
    unfold neg4
    dsimp only
    rw[Z0k br,Z0k bs,Z0k bt,Z0k bw]
   rw[cond_true,hneg]
   have g:∀x:Int,-x*-x=x*x:=fun x=>Int.neg_mul_neg x x
   refine ⟨⟨by show _≤-r∧-r≤_;omega,by show _≤-s∧-s≤_;omega,by show _≤-t∧-t≤_;omega⟩,by show _≤-w∧-w≤_;omega,?_,?_⟩
   ·show _≤-r*-r+-s*-s+-t*-t+-w*-w
    rw[g,g,g,g];exact hsum.1
   ·show -r*-r+-s*-s+-t*-t+-w*-w≤_
    rw[g,g,g,g];exact hsum.2
end Go.Ab
/- What the words at a translation's head say, of any program. -/
namespace Go.Ab
theorem make_of {P : Program} {rest : List (List Char)} (h : behindMainWord (wordsSigns P.initOrder.toList) = "cut".toList :: rest) : P.make = some .cut := by
  unfold Program.make
  rw [h]
  kernel_rfl
theorem headLifts_of {P : Program} {rest : List (List Char)} (h : behindMainWord (wordsSigns P.initOrder.toList) = "cut".toList :: rest) : P.headLifts = [] := by
  unfold Program.headLifts
  rw [h]
  kernel_rfl
theorem liftsFinal_of {P : Program} {rest : List (List Char)} (h : behindMainWord (wordsSigns P.initOrder.toList) = "cut".toList :: rest) : P.liftsFinal = false := by
  unfold Program.liftsFinal
  rw [headLifts_of h, h]
  kernel_rfl
theorem mayEnter_of {P : Program} {rest : List (List Char)} (h : behindMainWord (wordsSigns P.initOrder.toList) = "cut".toList :: rest) (h1 : P.laysLater = false) (h2 : P.bearsReflect = false) (h3 : P.doorFits [] = true) : P.mayEnter = true := by
  have hs : stripLifts liftWords ("cut".toList :: rest) = ([], "cut".toList :: rest) := by kernel_rfl
  unfold Program.mayEnter
  rw [h]
  simp only [hs, h1, h2, h3]
  simp
end Go.Ab
