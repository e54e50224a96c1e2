/- A part of the proofs: lemmas, no statement of their own; no condition. -/
import Derived.Test.YtoocjipllmkjcaaGreatGCrW
import Derived.Test.YtoocjipllmkjcaaGreatGRtF
import Derived.Test.YtoocjipllmkjcaaGreatGCrQ
import Derived.Test.YtoocjipllmkjcaaGreatGMtJ
set_option linter.unusedSimpArgs false
namespace Go.Ab
open Go Go.Proofs
noncomputable def hoR:Nat→Code
 | 0=>Tryz.f9.body.getD .skip
 | k+1=>seqR (hoR k)
noncomputable def hoL(k:Nat):Code:=seqL (hoR k)
noncomputable def hoB:Code:=inB (inB (seqR (hoL 5)))
noncomputable def hoT:Nat→Code
 | 0=>inB (seqL (seqR (seqR hoB)))
 | k+1=>seqR (hoT k)
noncomputable def hoO3:Array Oper:=regO (seqL (hoL 2))
noncomputable def hoO9:Array Oper:=regO (seqL (hoT 0))
theorem C5q:Tryz.f9.body=some (.seq (hoL 0) (.seq (hoL 1) (.seq (.seq (.region 3 hoO3 false) (seqR (hoL 2))) (.seq (hoL 3) (.seq (hoL 4) (.seq (.seq (seqL (hoL 5)) (.block 0 (.loop (.seq (seqL hoB) (.seq (seqL (seqR hoB)) (.seq (.block 1 (.seq (.region 9 hoO9 false) (.seq (seqL (hoT 1)) (.seq (seqL (hoT 2)) (.seq (seqL (hoT 3)) (.seq (seqL (hoT 4)) (.seq (seqL (hoT 5)) (.seq (seqL (hoT 6)) (hoT 7))))))))) (seqR (seqR (seqR hoB))))))))) (hoR 6))))))):=by kernel_rfl
theorem C5p:Tryz.prog.funcs[9]?=some Tryz.f9:=by kernel_rfl
theorem f9_N:Tryz.f9.ntmps=104:=by kernel_rfl
theorem A4g : (Tryz.f27.body.isSome && !Tryz.f27.name == "runtime.NumGoroutine") = true := by kernel_rfl
def cFew:Call:={callee:=.value (.func 27),args:=#[.tmp 17],argTypes:=#[22]}
theorem C5h:B0a hoO3 1=some (.call cFew,some 18,true):=by kernel_rfl
theorem C5j:List.range hoO3.size=(List.range (hoO3.toList.take 1).length).map (0+·)++(1 :: ((List.range (hoO3.toList.drop 2).length).map (2+·)++[])):=by kernel_rfl
theorem C5k:B0a hoO9 0=some (.indexAddr 22 (.tmp 29) (.tmp 31),some 33,true):=by kernel_rfl
theorem C5m:B0a hoO9 1=some (.load 70 (.tmp 33),some 34,true):=by kernel_rfl
theorem C5n:List.range hoO9.size=0 :: 1 :: ((List.range (hoO9.toList.drop 2).length).map (2+·)++[]):=by kernel_rfl
structure V0z where
 aw:Bool
 pre:StpA→Bool
 g:StpA→Two Crf ByteArray
 sz:ByteArray×Unit→Bool
 op:ByteArray×Unit→Two Fr Bool
 rp:Fr×Unit→Bool
 rd:Fr×Unit→Two Tl Bool
 hl:Crf×Unit→Bool
def P0z(F:V0z):Gam:=[(23,S0 fun (_:Unit)=>F.aw),(25,S0w F.pre F.g),(28,S0 fun (p:Int×Int×Unit)=>A0m p.1 p.2.1),(29,S0w F.sz F.op),(30,S0c F.rp F.rd),(31,S0 F.hl)]
def hoN1:Nat:=4096+1*2^180
def hoN2:Nat:=4096+2*2^180
def hoN3:Nat:=4096+3*2^180
def hoN4:Nat:=4096+4*2^180
def hoN5:Nat:=4096+5*2^180
def ho0(bg:Int)(a:Option Addr)(n c:Nat)(tm:List (Nat×AV)):St:=gSt 104 ([(0,.val (.int .i64 bg)),(1,.val (.slice a n c)),(4,.val (.bool false))]++tm) [] 4096
def hoS(a:Option Addr)(n c:Nat)(cr:Crf)(tk i:Int)(lo:Nat)(tm:List (Nat×AV))(H:Hp):St:=gSt 104 ([(4,.val (.bool false)),(5,.ptr 4096 0),(6,.val (.int .i64 tk)),(29,.val (.slice a n c)),(30,.val (.int .i64 n)),(31,.val (.int .i64 i))]++tm) ([(4096,.row 44 (C0x cr))]++H) lo
def hoF(a:Option Addr)(n c:Nat)(cr:Crf)(tk i k:Int)(d:ByteArray):St:=hoS a n c cr tk i hoN2 [(8,.ptr hoN1 0)] [(hoN1,.row 70 [.val (.int .i64 k),.val (.string d)])]
def hoG(a:Option Addr)(n c:Nat)(cr:Crf)(tk i:Int)(nx:Crf)(s:ByteArray):St:=hoS a n c cr tk i hoN3 [(9,.ptr hoN2 0),(10,.val (.string s))] [(hoN2,.row 44 (C0x nx))]
def hoX(a:Option Addr)(n c:Nat)(cr:Crf)(tk i:Int)(s:ByteArray):St:=hoS a n c cr tk i hoN3 [(10,.val (.string s))] []
def hoY(a:Option Addr)(n c:Nat)(cr:Crf)(tk i:Int)(f:Fr)(o:Bool):St:=hoS a n c cr tk i hoN4 [(11,.ptr hoN3 0),(12,.val (.bool o))] [(hoN3,.row 74 [.val (.int .i64 f.kind),.val (.string f.data)])]
def hoH(a:Option Addr)(n c:Nat)(cr:Crf)(tk i:Int)(o y:Bool)(t:Tl):St:=hoS a n c cr tk i hoN5 [(12,.val (.bool o)),(13,.ptr hoN4 0),(14,.val (.bool y))] [(hoN4,C2b t)]
abbrev HoT:List Nat:=[4,5,6,29,30,31]
abbrev N1x(a:Option Addr)(n c:Nat)(cr:Crf)(tk i:Int)(lo:Nat):Option (Ex×St):=some (.ret,hoS a n c cr tk i lo [] [])
section
variable (F:V0z) (bg tk i k:Int) (a:Option Addr) (ad:Addr) (n c:Nat) (cr nx:Crf) (t o y:Bool) (tl:Tl) (d s:ByteArray) (f:Fr)
noncomputable abbrev N0e(F:V0z)(c:Code)(s:St)(ks ts:List Nat):Option (Ex×St):=gRun Tryz.prog {gam:=P0z F} 104 c s ks ts
theorem C5r:N0e F (hoL 0) (B0t 104 [.val (.int .i64 bg),.val (.slice a n c)] []) [] [0,1,4]=some (.normal,ho0 bg a n c []):=by kernel_rfl
theorem C5t:N0e F (hoL 1) (ho0 bg a n c []) [] [0,1,4]=bif !F.aw then some (.ret,ho0 bg a n c []) else some (.normal,ho0 bg a n c []):=by kernel_rfl
theorem C5u:B0j Tryz.prog (B0v Tryz.prog {gam:=P0z F} 4 (Bool×St)) (B0p (P0z F)) 104 hoO3 (hoO3.toList.take 1) (ho0 bg a n c []) [] (C0p [] (E0d 104 [0,1,4,17]))=some (true,ho0 bg a n c [(17,.val (.slice a n c))]):=by kernel_rfl
theorem B4k:B0j Tryz.prog (B0v Tryz.prog {gam:=P0z F} 4 (Bool×St)) (B0p (P0z F)) 104 hoO3 (hoO3.toList.drop 2) {ho0 bg a n c [(17,.val (.slice a n c))]with tmps:=(ho0 bg a n c [(17,.val (.slice a n c))]).tmps.set 18 (.val (.bool t))} [] (C0p [] (E0d 104 [0,1,4,27]))=bif !t then some (true,ho0 bg a n c [(27,.val (.bool true))]) else bif decide (bg<0) then some (true,ho0 bg a n c [(27,.val (.bool true))]) else some (true,ho0 bg a n c [(27,.val (.bool (decide (bg>157766400000))))]):=by kernel_rfl
theorem C5v:N0e F (seqR (hoL 2)) (ho0 bg a n c [(27,.val (.bool t))]) [] [0,1,4]=bif t then some (.ret,{ho0 bg a n c []with tmps:=(ho0 bg a n c []).tmps.set 4 (.val (.bool true))}) else some (.normal,ho0 bg a n c []):=by kernel_rfl
theorem C5w:N0e F (hoL 3) (ho0 bg a n c []) [4096] [0,1,4,5]=some (.normal,gSt 104 [(0,.val (.int .i64 bg)),(1,.val (.slice a n c)),(4,.val (.bool false)),(5,.ptr 4096 0)] [(4096,.row 44 (C0x crf0))] hoN1):=by kernel_rfl
theorem C5x:N0e F (hoL 4) (gSt 104 [(0,.val (.int .i64 bg)),(1,.val (.slice a n c)),(4,.val (.bool false)),(5,.ptr 4096 0)] [(4096,.row 44 (C0x crf0))] hoN1) [4096] [0,1,4,5,6]=some (.normal,gSt 104 [(0,.val (.int .i64 bg)),(1,.val (.slice a n c)),(4,.val (.bool false)),(5,.ptr 4096 0),(6,.val (.int .i64 bg))] [(4096,.row 44 (C0x crf0))] hoN1):=by kernel_rfl
theorem C5y:N0e F (seqL (hoL 5)) (gSt 104 [(0,.val (.int .i64 bg)),(1,.val (.slice a n c)),(4,.val (.bool false)),(5,.ptr 4096 0),(6,.val (.int .i64 bg))] [(4096,.row 44 (C0x crf0))] hoN1) [4096] HoT=some (.normal,hoS a n c crf0 bg 0 hoN1 [] []):=by kernel_rfl
theorem B4m:N0e F (seqL hoB) (hoS a n c cr tk i hoN1 [] []) [4096] (32 :: HoT)=some (.normal,hoS a n c cr tk i hoN1 [(32,.val (.bool (decide (i<n))))] []):=by kernel_rfl
theorem B4n:N0e F (seqL (seqR hoB)) (hoS a n c cr tk i hoN1 [(32,.val (.bool t))] []) [4096] HoT=bif t then some (.normal,hoS a n c cr tk i hoN1 [] []) else some (.exit 0,hoS a n c cr tk i hoN1 [] []):=by kernel_rfl
theorem C5z:B0j Tryz.prog (B0v Tryz.prog {gam:=P0z F} 4 (Bool×St)) (B0p (P0z F)) 104 hoO9 (hoO9.toList.drop 2) {hoS a n c cr tk i hoN1 [] []with tmps:=((hoS a n c cr tk i hoN1 [] []).tmps.set 33 (.val (.pointer (some ad)))).set 34 (.val (.agg (List.toArray [.int .i64 k,.string d])))} [] (C0p [4096,hoN1] (E0d 104 (8 :: HoT)))=some (true,hoF a n c cr tk i k d):=by kernel_rfl
theorem A4z:N0e F (seqL (hoT 1)) (hoF a n c cr tk i k d) [4096,hoN1] (8 :: HoT)=some (.normal,hoF a n c cr (A0m tk k) i k d):=by kernel_rfl
theorem B4a:N0e F (seqL (hoT 2)) (hoF a n c cr tk i k d) [4096,hoN2] (9 :: 10 :: HoT)=bif F.pre (cr,tk,d,()) then some (.normal,hoG a n c cr tk i (F.g (cr,tk,d,())).a (F.g (cr,tk,d,())).b) else none:=by kernel_rfl
theorem B4b:N0e F (seqL (hoT 3)) (hoG a n c cr tk i nx s) [4096,hoN2] (9 :: 10 :: HoT)=bif s.toList==(⟨#[]⟩:ByteArray).toList then bif !crfK nx cr then some (.ret,hoG a n c cr tk i nx s) else some (.exit 1,hoG a n c cr tk i nx s) else some (.normal,hoG a n c cr tk i nx s):=by kernel_rfl
theorem H3n:N0e F (seqL (hoT 3)) (hoG a n c cr tk i nx s) [4096] HoT=bif s.toList==(⟨#[]⟩:ByteArray).toList then bif !crfK nx cr then N1x a n c cr tk i hoN3 else some (.exit 1,hoS a n c cr tk i hoN3 [] []) else some (.normal,hoS a n c cr tk i hoN3 [] []):=by kernel_rfl
theorem B4c:N0e F (seqL (hoT 4)) (hoG a n c cr tk i nx s) [4096] (10 :: HoT)=some (.normal,hoX a n c nx tk i s):=by kernel_rfl
theorem B4d:N0e F (seqL (hoT 5)) (hoX a n c cr tk i s) [4096,hoN3] (11 :: 12 :: HoT)=bif F.sz (s,()) then some (.normal,hoY a n c cr tk i (F.op (s,())).a (F.op (s,())).b) else none:=by kernel_rfl
theorem B4e:N0e F (seqL (hoT 6)) (hoY a n c cr tk i f o) [4096,hoN4] (12 :: 13 :: 14 :: HoT)=bif F.rp (f,()) then some (.normal,hoH a n c cr tk i o (F.rd (f,())).b (F.rd (f,())).a) else none:=by kernel_rfl
theorem B4g:N0e F (hoT 7) (hoH a n c cr tk i o y tl) [4096] HoT=bif !o then N1x a n c cr tk i hoN5 else bif !y then N1x a n c cr tk i hoN5 else bif tl.mode != cr.plan.mode then N1x a n c cr tk i hoN5 else bif tl.tk != tk then N1x a n c cr tk i hoN5 else bif tl.rej != cr.rej then N1x a n c cr tk i hoN5 else bif tl.faults != cr.plan.faults then N1x a n c cr tk i hoN5 else bif !F.hl (cr,()) then N1x a n c cr tk i hoN5 else some (.normal,hoS a n c cr tk i hoN5 [] []):=by kernel_rfl
theorem B4h:N0e F (seqR (seqR (seqR hoB))) (hoS a n c cr tk i hoN1 [] []) [4096] HoT=some (.normal,hoS a n c cr tk (IntKind.i64.wrap (i+1)) hoN1 [] []):=by kernel_rfl
theorem B4j:N0e F (hoR 6) (hoS a n c cr tk i hoN1 [] []) [] [4]=some (.ret,gSt 104 [(4,.val (.bool true))] [] hoN1):=by kernel_rfl
theorem B4p(lo:Nat):resA Tryz.prog (gSt 104 [(4,.val (.bool true))] [] lo) Tryz.f9.results.toList=some [.val (.bool true)]:=by kernel_rfl
theorem H3p:resA Tryz.prog {ho0 bg a n c []with tmps:=(ho0 bg a n c []).tmps.set 4 (.val (.bool true))} Tryz.f9.results.toList=some [.val (.bool true)]:=by kernel_rfl
theorem X1z(lo:Nat):A0p hoN1 (hoS a n c cr tk i lo [] [])=true:=by kernel_rfl
theorem H2j:(hoS a n c cr tk i hoN1 [] []).tmps.length=104:=by kernel_rfl
theorem H3m(v:Value):(ho0 bg a n c [(17,.val v)]).tmps.length=104:=by kernel_rfl
end
def N1w(F:V0z)(cr:Crf)(tk:Int)(o:Bool)(r:Two Tl Bool):Bool:=o&&(r.b&&(r.a.mode==cr.plan.mode&&(r.a.tk==tk&&(r.a.rej==cr.rej&&(r.a.faults==cr.plan.faults&&F.hl (cr,()))))))
def HoOk(F:V0z)(cr:Crf)(tk:Int):List Rec→Prop
 | []=>True
 | r :: t=>F.pre (cr,A0m tk r.1,r.2,())=true ∧
  (((F.g (cr,A0m tk r.1,r.2,())).b.toList==(⟨#[]⟩:ByteArray).toList)=true→crfK (F.g (cr,A0m tk r.1,r.2,())).a cr=true∧HoOk F cr (A0m tk r.1) t) ∧
  (((F.g (cr,A0m tk r.1,r.2,())).b.toList==(⟨#[]⟩:ByteArray).toList)=false→F.sz ((F.g (cr,A0m tk r.1,r.2,())).b,())=true∧F.rp ((F.op ((F.g (cr,A0m tk r.1,r.2,())).b,())).a,())=true ∧
   N1w F (F.g (cr,A0m tk r.1,r.2,())).a (A0m tk r.1) (F.op ((F.g (cr,A0m tk r.1,r.2,())).b,())).b (F.rd ((F.op ((F.g (cr,A0m tk r.1,r.2,())).b,())).a,()))=true∧HoOk F (F.g (cr,A0m tk r.1,r.2,())).a (A0m tk r.1) t)
abbrev Z1p(w:World)(s:St)(a:Act)(w':World):Prop:=A0j 104 w U1k N0x 4096 (4096+2^200) s a w'
section
variable {F:V0z} (hG:GamOk Tryz.prog (P0z F))
include hG
theorem ho_g{c:Code}{s s1:St}{e:Ex}{ks ts:List Nat}(h:N0e F c s ks ts=some (e,s1)):A0b Tryz.prog 104 c s e s1:=A0a (E:={gam:=P0z F}) hG h
theorem H3k{w:World}{tk:Int}{a:Option Addr}{n c i:Nat}{cr:Crf}{r:Rec}{t:List Rec}(hok:HoOk F cr tk (r :: t)){Q:Exit→Act→World→Prop}{act:Act}{w':World}(hst:Z1p w (hoF a n c cr tk i r.1 r.2) act w')
  (hN:∀a' w2 cr' e,(e=Ex.normal∨e=.exit 1)→HoOk F cr' (A0m tk r.1) t→Z1p w (hoS a n c cr' (A0m tk r.1) i hoN1 [] []) a' w2→Q e.to a' w2) :
  (Code.seq (seqL (hoT 1)) (.seq (seqL (hoT 2)) (.seq (seqL (hoT 3)) (.seq (seqL (hoT 4)) (.seq (seqL (hoT 5)) (.seq (seqL (hoT 6)) (hoT 7))))))).wp Tryz.prog Q act w':=by
 obtain ⟨hp,he1,he2⟩:=hok
 refine wp_seq (ho_g hG (A4z F tk i r.1 a n c cr r.2) _ _ _ _ _ act w' hst _ fun a1 w1 h1=>?_)
 have q11:=B4a F (A0m tk r.1) i r.1 a n c cr r.2
 rw[hp,cond_true]at q11
 refine wp_seq (ho_g hG q11 _ _ _ _ _ a1 w1 h1 _ fun a2 w2 h2=>?_)
 generalize hy:F.g (cr,A0m tk r.1,r.2,())=y at *
 obtain ⟨nx,s⟩:=y
 dsimp only at he1 he2 h2
 have q12:=B4b F (A0m tk r.1) i a n c cr nx s
 have q12x:=H3n F (A0m tk r.1) i a n c cr nx s
 have low:4096≤hoN1:=by decide +kernel
 cases hs:s.toList==(⟨#[]⟩:ByteArray).toList with
 | true =>
  obtain ⟨hk,hok2⟩:=he1 hs
  rw[hs,cond_true,hk]at q12x
  refine wp_seq (ho_g hG q12x _ _ _ _ _ a2 w2 h2 _ fun a3 w3 h3=>?_)
  have h4:=h3.let_go (lo:=hoN1) (X1z ..) low rfl
  exact hN a3 w3 cr (.exit 1) (.inr rfl) hok2 h4
 | false =>
  obtain ⟨hz,hr,hl,hok2⟩:=he2 hs
  rw[hs,cond_false]at q12
  refine wp_seq (ho_g hG q12 _ _ _ _ _ a2 w2 h2 _ fun a3 w3 h3=>?_)
  refine wp_seq (ho_g hG (B4c F (A0m tk r.1) i a n c cr nx s) _ _ _ _ _ a3 w3 h3 _ fun a4 w4 h4=>?_)
  have q16:=B4d F (A0m tk r.1) i a n c nx s
  rw[hz,cond_true]at q16
  refine wp_seq (ho_g hG q16 _ _ _ _ _ a4 w4 h4 _ fun a5 w5 h5=>?_)
  have q17:=B4e F (A0m tk r.1) i a n c nx (F.op (s,())).b (F.op (s,())).a
  rw[hr,cond_true]at q17
  refine wp_seq (ho_g hG q17 _ _ _ _ _ a5 w5 h5 _ fun a6 w6 h6=>?_)
  have q18:=B4g F (A0m tk r.1) i a n c nx (F.op (s,())).b (F.rd ((F.op (s,())).a,())).b (F.rd ((F.op (s,())).a,())).a
  unfold N1w at hl
  simp only[Bool.and_eq_true]at hl
  obtain ⟨l1,l2,l3,l4,l5,l6,l7⟩:=hl
  rw[l1,l2,l7]at q18
  simp only[bne,l3,l4,l5,l6,Bool.not_true,cond_false]at q18
  rw[l1,l2]at h6
  refine ho_g hG q18 _ _ _ _ _ a6 w6 h6 _ fun a7 w7 h7=>?_
  have h8:=h7.let_go (lo:=hoN1) (X1z ..) low rfl
  exact hN a7 w7 nx .normal (.inl rfl) hok2 h8
theorem H2k{w:World}{a:Option Addr}{c:Nat}{rs:List Rec}(hat:RecAt w a rs.length rs){Q:Exit→Act→World→Prop} :
  ∀(m i:Nat) (cr:Crf) (tk:Int) (act:Act) (w':World),i+m=rs.length→HoOk F cr tk (rs.drop i)→(∀a' w2 cr' tk',Z1p w (hoS a rs.length c cr' tk' rs.length hoN1 [] []) a' w2→Q (.exit 0) a' w2)→Z1p w (hoS a rs.length c cr tk i hoN1 [] []) act w' →
   Code.rounds Tryz.prog (.seq (seqL hoB) (.seq (seqL (seqR hoB)) (.seq (.block 1 (.seq (.region 9 hoO9 false) (.seq (seqL (hoT 1)) (.seq (seqL (hoT 2)) (.seq (seqL (hoT 3)) (.seq (seqL (hoT 4)) (.seq (seqL (hoT 5)) (.seq (seqL (hoT 6)) (hoT 7))))))))) (seqR (seqR (seqR hoB)))))) Q (m+1) act w':=by
 intro m
 induction m with
 | zero =>
  intro i cr tk act w' hi _ hQ hst
  have hi':i=rs.length:=by omega
  subst hi'
  rw[rounds_succ]
  refine wp_seq (ho_g hG (B4m F tk rs.length a rs.length c cr) _ _ _ _ _ act w' hst _ fun a1 w1 h1=>?_)
  rw[decide_eq_false (by omega)]at h1
  refine wp_seq (ho_g hG (B4n F tk rs.length a rs.length c cr false) _ _ _ _ _ a1 w1 h1 _ fun a2 w2 h2=>?_)
  exact hQ a2 w2 cr tk h2
 | succ m ih =>
  intro i cr tk act w' hi hok hQ hst
  rw[rounds_succ]
  have hlt:i<rs.length:=by omega
  refine wp_seq (ho_g hG (B4m F tk i a rs.length c cr) _ _ _ _ _ act w' hst _ fun a1 w1 h1=>?_)
  rw[decide_eq_true (by omega)]at h1
  refine wp_seq (ho_g hG (B4n F tk i a rs.length c cr true) _ _ _ _ _ a1 w1 h1 _ fun a2 w2 h2=>?_)
  refine wp_seq (wp_block (wp_seq (wp_region ?_)))
  rw[C5n]
  have hat2:RecAt w2 a rs.length rs:=hat.later (by obtain ⟨_,_,hf,_⟩:=h2;exact hf.grown) fun k hk=>h2.far hk fun h=>h
  obtain ⟨ad,rfl,_,hc0,hc1⟩:=hat2.lies i hlt
  obtain ⟨ti,hti,hs⟩:=N1z
  refine K0q C5k (by omega) (H2j ..) v22s hti h2 (b:=ad) (len:=rs.length) (cap:=c) (i:=i) (ik:=.i64) (h2.eval (t:=29) rfl) (h2.eval (t:=31) rfl) hlt _ fun a3 h3=>?_
  have ead:∀k,(ad.add (i*ti.size)).add k=ad.add (i*2+k):=by
   intro k
   rw[hs]
   exact adds ad (i*2) k
  refine N0g C5m (by omega) (by rw[List.length_set];exact H2j ..) h3 (b:=ad.add (i*ti.size)) (h3.eval (t:=33) (by rw[List.getElem?_set_self (by rw[H2j];omega)])) (L1m (k:=rs[i].1) (d:=rs[i].2) (by rw[ead];exact hc0) (by rw[ead];exact hc1)) _ fun a4 h4=>?_
  refine D0z (B0b (E:={gam:=P0z F}) hG 4 _) [4096,hoN1] _ (C5z F tk i rs[i].1 (some ad) (ad.add (i*ti.size)) rs.length c cr rs[i].2) (fun _ _ hj=>D0k hj) h4 [] fun a5 w5 h5=>?_
  have hdr:rs.drop i=rs[i] :: rs.drop (i+1):=List.drop_eq_getElem_cons hlt
  rw[hdr]at hok
  refine H3k hG hok h5 fun a6 w6 cr' e he hok2 h6=>?_
  have hw:IntKind.i64.wrap ((i:Int)+1)=((i+1:Nat):Int):=by have :=hat.small;rw[C0k];omega
  have next:(seqR (seqR (seqR hoB))).wp Tryz.prog (Exit.then (Code.rounds Tryz.prog (.seq (seqL hoB) (.seq (seqL (seqR hoB)) (.seq (.block 1 (.seq (.region 9 hoO9 false) (.seq (seqL (hoT 1)) (.seq (seqL (hoT 2)) (.seq (seqL (hoT 3)) (.seq (seqL (hoT 4)) (.seq (seqL (hoT 5)) (.seq (seqL (hoT 6)) (hoT 7))))))))) (seqR (seqR (seqR hoB)))))) Q (m+1)) Q) a6 w6:=by
   refine ho_g hG (B4h F (A0m tk rs[i].1) i (some ad) rs.length c cr') _ _ _ _ _ a6 w6 h6 _ fun a7 w7 h9=>?_
   rw[hw]at h9
   exact ih (i+1) cr' _ a7 w7 (by omega) hok2 hQ h9
  rcases he with rfl | rfl
  ·simp only[Ex.to,Exit.inBlock]
   exact next
  ·simp only[Ex.to,Exit.inBlock,if_true]
   exact next
theorem T1v(haw:F.aw=true)(bg:Int)(a:Option Addr)(c:Nat)(rs:List Rec)(w:World)(hat:RecAt w a rs.length rs)(hok:fewV rs=true→0≤bg→bg≤157766400000→HoOk F crf0 bg rs) :
  Calls Tryz.prog 9 #[.int .i64 bg,.slice a rs.length c] w fun e w'=>∃v,e=.returned v∧RowKit.Below w.heap.size w w'∧v=.bool true:=by
 refine U0m (vals:=[.int .i64 bg,.slice a rs.length c]) (args:=[.val (.int .i64 bg),.val (.slice a rs.length c)]) C5p C5q f9_N (by show 2≤104;omega) w (by simp only[Rels,Rel];exact ⟨_,_,rfl,rfl,_,_,rfl,rfl,rfl⟩) fun act Q hst hQ=>?_
 refine wp_seq (ho_g hG (C5r F bg a rs.length c) _ _ _ _ _ act w hst _ fun a1 w1 h1=>?_)
 have q1:=C5t F bg a rs.length c
 rw[haw,Bool.not_true,cond_false]at q1
 refine wp_seq (ho_g hG q1 _ _ _ _ _ a1 w1 h1 _ fun a2 w2 h2=>?_)
 have later:∀{s:St} {ax:Act} {wx:World},Z1p w s ax wx→RecAt wx a rs.length rs:=fun h=>hat.later (by obtain ⟨_,_,hf,_⟩:=h;exact hf.grown) fun k hk=>h.far hk fun h=>h
 refine wp_seq (wp_seq (wp_region ?_))
 rw[C5j]
 refine D0z (B0b (E:={gam:=P0z F}) hG 4 _) [] _ (C5u F bg a rs.length c) (fun _ _ hj=>L0b hj) h2 _ fun a3 w3 h3=>?_
 have harg:cFew.args.map a3.eval=#[.slice a rs.length c]:=by
  have:a3.eval (.tmp 17)=.slice a rs.length c:=h3.eval (t:=17) rfl
  simp[cFew,this]
 refine P0r C5h (by omega) (H3m ..) h3 rfl C3c A4g harg (E2y a c rs w3 (later h3)) _ fun v a4 w4 own1 σ1 hX _ _ _ h4 back=>?_
 subst hX
 have q3b:=B4k F bg a rs.length c (fewV rs)
 have q4:=fun t=>C5v F bg a rs.length c t
 have stop:∀{a5 w5},Z1p w (ho0 bg a rs.length c [(27,.val (.bool true))]) a5 w5→Code.wp Tryz.prog (seqR (hoL 2)) (Exit.then (Code.wp Tryz.prog (.seq (hoL 3) (.seq (hoL 4) (.seq (.seq (seqL (hoL 5)) (.block 0 (.loop (.seq (seqL hoB) (.seq (seqL (seqR hoB)) (.seq (.block 1 (.seq (.region 9 hoO9 false) (.seq (seqL (hoT 1)) (.seq (seqL (hoT 2)) (.seq (seqL (hoT 3)) (.seq (seqL (hoT 4)) (.seq (seqL (hoT 5)) (.seq (seqL (hoT 6)) (hoT 7))))))))) (seqR (seqR (seqR hoB))))))))) (hoR 6)))) Q) Q) a5 w5:=by
  intro a5 w5 h5
  refine ho_g hG (q4 true) _ _ _ _ _ a5 w5 h5 _ fun a6 w6 h6=>?_
  exact hQ .ret a6 w6 _ _ _ (.inr rfl) h6 (H3p ..) rfl rfl
 have more:∀{o:Bool},(bif !fewV rs then (some (true,ho0 bg a rs.length c [(27,.val (.bool true))]):Option (Bool×St)) else bif decide (bg<0) then some (true,ho0 bg a rs.length c [(27,.val (.bool true))]) else some (true,ho0 bg a rs.length c [(27,.val (.bool (decide (bg>157766400000))))]))=some (true,ho0 bg a rs.length c [(27,.val (.bool o))])→(o=false→fewV rs=true∧0≤bg∧bg≤157766400000) →
   B0j Tryz.prog (B0v Tryz.prog {gam:=P0z F} 4 (Bool×St)) (B0p (P0z F)) 104 hoO3 (hoO3.toList.drop 2) {ho0 bg a rs.length c [(17,.val (.slice a rs.length c))]with tmps:=(ho0 bg a rs.length c [(17,.val (.slice a rs.length c))]).tmps.set 18 (.val (.bool (fewV rs)))} [] (C0p [] (E0d 104 [0,1,4,27]))=some (true,ho0 bg a rs.length c [(27,.val (.bool o))]):=fun h _=>q3b.trans h
 obtain ⟨o,ho,hof⟩:∃o:Bool,(bif !fewV rs then (some (true,ho0 bg a rs.length c [(27,.val (.bool true))]):Option (Bool×St)) else bif decide (bg<0) then some (true,ho0 bg a rs.length c [(27,.val (.bool true))]) else some (true,ho0 bg a rs.length c [(27,.val (.bool (decide (bg>157766400000))))]))=some (true,ho0 bg a rs.length c [(27,.val (.bool o))])∧(o=false→fewV rs=true∧0≤bg∧bg≤157766400000):=by
  cases hf:fewV rs with
  | false=>exact ⟨true,rfl,fun h=>by cases h⟩
  | true =>
   by_cases h0:bg<0
   ·exact ⟨true,by rw[decide_eq_true h0];rfl,fun h=>by cases h⟩
   ·refine ⟨decide (bg>157766400000),by rw[decide_eq_false h0];rfl,fun h=>⟨rfl,by omega,?_⟩⟩
    have :=of_decide_eq_false h
    omega
 refine D0z (B0b (E:={gam:=P0z F}) hG 4 _) [] _ (more ho hof) (fun _ _ hj=>D0k hj) h4 [] fun a5 w5 h5=>?_
 have h5:=back _ _ _ h5
 cases o with
 | true=>exact stop h5
 | false =>
  obtain ⟨f1,f2,f3⟩:=hof rfl
  refine ho_g hG (q4 false) _ _ _ _ _ a5 w5 h5 _ fun a6 w6 h6=>?_
  refine wp_seq (ho_g hG (C5w F bg a rs.length c) _ _ _ _ _ a6 w6 h6 _ fun a7 w7 h7=>?_)
  refine wp_seq (ho_g hG (C5x F bg a rs.length c) _ _ _ _ _ a7 w7 h7 _ fun a8 w8 h8=>?_)
  refine wp_seq (wp_seq (ho_g hG (C5y F bg a rs.length c) _ _ _ _ _ a8 w8 h8 _ fun a9 w9 h9=>?_))
  refine wp_block (wp_loop_rounds (rs.length+1) (H2k hG hat rs.length 0 crf0 bg a9 w9 (by omega) (by rw[List.drop_zero];exact hok f1 f2 f3) (fun a10 w10 cr' tk' h10=>?_) h9))
  simp only[Exit.inBlock,if_true]
  refine ho_g hG (B4j F tk' rs.length a rs.length c cr') _ _ _ _ _ a10 w10 h10 _ fun a11 w11 h11=>?_
  exact hQ .ret a11 w11 _ _ _ (.inr rfl) h11 (B4p ..) rfl rfl
end
def heN(nm:Bool→Int×Int×Int×Unit→Int×Bool)(g:Gs):Int×Bool:=nm (nm false (g.q.w,g.q.x,g.q.y,())).2 ((nm false (g.q.w,g.q.x,g.q.y,())).1,g.q.z,0,())
def heD(nm:Bool→Int×Int×Int×Unit→Int×Bool)(g:Gs):Int:=IntKind.i64.wrap ((heN nm g).1-1099511627776)
def heL(c:Crf):List Bool:=[decide (c.plan.mode<0),decide (c.plan.mode>3),decide (c.plan.faults<0),decide (c.plan.faults>15),decide (c.rej<0),decide (c.rej>65535),decide (c.ack<0),decide (c.ack>255),decide (c.err<0),decide (c.err>3),decide ((c.left.size:Int)>68),
 decide (c.plan.calm<0),decide (c.plan.calm>2),decide (c.plan.good<0),decide (c.plan.good>1),decide (c.plan.miss<0),decide (c.plan.miss>4),decide (c.plan.lost<0),decide (c.plan.lost>2)]
def heT(K:Option (AV×List Con)):List Bool→Option (AV×List Con)
 | []=>K
 | b :: r=>bif b then yesB false else heT K r
def heK(nm:Bool→Int×Int×Int×Unit→Int×Bool)(c:Crf):Option (AV×List Con) :=
 bif c.plan.mode != 2 then yesB (gsK c.guess Gs.zero) else bif !(heN nm c.guess).2 then bif decide (heD nm c.guess≤16) then bif decide (heD nm c.guess≥-16) then yesB (decide (IntKind.i64.wrap (IntKind.i64.wrap (c.guess.p.a.a+c.guess.p.b.b)+c.guess.p.c.c)≤274877906944)) else yesB false else yesB false else yesB false
theorem A4y(nm:Bool→Int×Int×Int×Unit→Int×Bool)(c:Crf):fnSum Tryz.prog {gam:=[(39,S 59 nm)]} [] 20 31 [.val (Cod.enc c)] []=heT (heK nm c) (heL c):=by kernel_rfl
def H2g(p:Crf×Unit):Bool:=(heL p.1).all (!·)&&(bif p.1.plan.mode != 2 then gsK p.1.guess Gs.zero else !(heN (op3 E0g) p.1.guess).2&&(decide (heD (op3 E0g) p.1.guess≤16)&&(decide (heD (op3 E0g) p.1.guess≥-16)&&decide (IntKind.i64.wrap (IntKind.i64.wrap (p.1.guess.p.a.a+p.1.guess.p.b.b)+p.1.guess.p.c.c)≤274877906944))))
theorem C3h(v:Bool):∀l:List Bool,heT (yesB v) l=yesB (l.all (!·)&&v)
 | []=>rfl
 | b :: r=>by
  unfold heT
  rw[C3h v r]
  cases b<;>rfl
theorem K4y:A0h Tryz.prog 31 (S0 H2g):=H0n (E:={gam:=[(39,S 59 (op3 E0g))]}) (.cons K4m .nil) 20 fun a=>by
 refine (A4y (op3 E0g) a.1).trans ?_
 have e:heK (op3 E0g) a.1=yesB (bif a.1.plan.mode != 2 then gsK a.1.guess Gs.zero else !(heN (op3 E0g) a.1.guess).2&&(decide (heD (op3 E0g) a.1.guess≤16)&&(decide (heD (op3 E0g) a.1.guess≥-16)&&decide (IntKind.i64.wrap (IntKind.i64.wrap (a.1.guess.p.a.a+a.1.guess.p.b.b)+a.1.guess.p.c.c)≤274877906944)))):=by
  unfold heK
  cases a.1.plan.mode != 2<;>cases (heN (op3 E0g) a.1.guess).2<;>cases decide (heD (op3 E0g) a.1.guess≤16)<;>cases decide (heD (op3 E0g) a.1.guess≥-16)<;>rfl
 rw[e,C3h]
 rfl
structure Z0m(J:CX→Prop):Prop where
 rej:∀{x:CX},J x→J (rejX x)
 left:∀{x:CX} (l:ByteArray),J x→J (x.1,{x.2.1 with left:=l},x.2.2)
 ack:∀{x:CX} (o:Two Odr Int),J x→J (ackX x o)
 say:∀{x:CX} (n:Int),n=1∨n=2→J x→J (sayX x n)
 orb:∀{x:CX} (o:Orb),J x→J (orbX x o)
 clr:∀{x:CX},J x→J (clrX x)
 put:∀{x:CX} (r:Rds),J x→J (x.1,x.2.1,r)
 drift:∀{x:CX} (d:Dr),J x→J (x.1,{x.2.1 with drift:=d},x.2.2)
section
variable {J:CX→Prop}
theorem M0p{c:Bool}{y z:CX}(hy:c=true→J y)(hz:c=false→J z):J (bif c then y else z):=by
 cases c
 ·exact hz rfl
 ·exact hy rfl
theorem Z0m.order(A:Z0m J){x:CX}(h:J x)(f:Fr×Unit):J (V0g x f):=by
 have ha:=A.ack (ordV f) h
 unfold V0g Q1c
 exact M0p (fun _=>A.rej ha) fun _=>M0p (fun h1=>A.say _ (.inl (by simpa using h1)) ha) fun _=>M0p (fun h1=>A.say _ (.inr (by simpa using h1)) ha) fun _=>M0p (fun _=>A.orb _ ha) fun _=>M0p (fun _=>A.clr ha) fun _=>ha
theorem Z0m.hear(A:Z0m J){x:CX}(h:J x)(f:Fr):J (N0d HR x f):=by
 have sens:∀p:CX,J p→J (X0p HR x f p):=fun p hp=>by
  unfold X0p
  exact M0p (fun _=>M0p (fun _=>hp) fun _=>A.rej h) fun _=>A.rej h
 unfold N0d
 exact M0p (fun _=>sens _ (A.put _ h)) fun _=>M0p (fun _=>sens _ (A.put _ h)) fun _=>M0p (fun _=>sens _ (A.put _ h)) fun _=>M0p (fun _=>A.order h _) fun _=>A.rej h
theorem Z0m.hears(A:Z0m J):∀(fs:List Fr) {x:CX},J x→J (fs.foldl (N0d HR) x)
 | [],_,h=>h
 | f :: fs,_,h=>A.hears fs (A.hear h f)
theorem Z0m.heard(A:Z0m J){x:CX}(h:J x)(b:ByteArray):J (W0v HR x (b,())):=by
 unfold W0v A2g
 refine A.hears _ ?_
 unfold H0z
 exact M0p (fun _=>A.rej (A.left _ h)) fun _=>A.left _ h
theorem Z0m.drifted(A:Z0m J){x:CX}(h:J x):J (cstD ST x):=by
 unfold cstD
 exact M0p (fun _=>A.drift _ h) fun _=>h
end
theorem B1b(a b c:Int):neg3 a b c=neg3 b a c:=by
 unfold neg3
 rw[Bool.xor_comm (decide (a<0))]
theorem T0j(f:Bool)(a b c:Int):H0b f a b c=H0b f b a c:=by
 unfold H0b
 rw[B1b a b c,Int.mul_comm (iabs a)]
theorem B1e(a b:Int):C0r [a,b]=C0r [b,a]:=by
 unfold C0r C0r C0r
 rw[Bool.and_true,Bool.and_true,Bool.and_comm]
theorem P0y(f:Bool)(a b:Int):fmul f a b=fmul f b a:=by
 unfold fmul
 rw[B1e,T0j]
theorem V0h(u v:Nat→Int):∀(n k:Nat) (s:Int×Bool),pmN opsF u v k n s=pmN opsF v u k n s
 | 0,_,_=>rfl
 | n+1,k,s=>by
  show pmN opsF u v (k+1) n (fadd (fmul s.2 (u k) (v k)).2 s.1 (fmul s.2 (u k) (v k)).1)=pmN opsF v u (k+1) n (fadd (fmul s.2 (v k) (u k)).2 s.1 (fmul s.2 (v k) (u k)).1)
  rw[P0y s.2 (u k),V0h u v n]
theorem M3b:opsF.mul=fmul:=rfl
theorem M3a:opsF.add=fadd:=rfl
theorem Y1j:opsF.part=G0m:=rfl
theorem B1w(b:Bool)(u v:Nat→Int):pmO opsF b u v=G0m (pmN opsF u v 1 12 (fadd (fmul b (u 0) (v 0)).2 (fmul b (u 0) (v 0)).1 (fmul b (u 0) (v 0)).1)).2 (pmN opsF u v 1 12 (fadd (fmul b (u 0) (v 0)).2 (fmul b (u 0) (v 0)).1 (fmul b (u 0) (v 0)).1)).1 1 14:=by
 unfold pmO
 dsimp only
 rw[Y1j,M3b,M3a]
theorem K1z(b:Bool)(u v:Nat→Int):pmO opsF b u v=pmO opsF b v u:=by
 rw[B1w,B1w,P0y b (u 0),V0h u v]
theorem V1k(u v:Nat→Int):(pmO opsF true u v).2=true:=by
 rw[B1w,X1r,X1n]
 have h:=V1j u v 12 1 0
 generalize pmN opsF u v 1 12 (0,true)=q at h ⊢
 obtain ⟨s,f⟩:=q
 have h:f=true:=h
 subst h
 rw[U0t]
theorem Q0g(x y:Mx)(i:Nat):∀(n j:Nat) (z:Mx×Bool),(A0k (G0x opsF x y i) j n z).2=false→z.2=false∧∀a b,(A0k (G0x opsF x y i) j n z).1 a b=if a=i∧j≤b∧b<j+n then (pmO opsF false (fun k=>x k i) (fun k=>y k b)).1 else z.1 a b
 | 0,j,z,h=>⟨h,fun a b=>by rw[if_neg (by omega)];rfl⟩
 | n+1,j,z,h=>by
  have hs:A0k (G0x opsF x y i) j (n+1) z=A0k (G0x opsF x y i) (j+1) n (G0x opsF x y i j z):=rfl
  rw[hs]at h ⊢
  obtain ⟨h1,h2⟩:=Q0g x y i n (j+1) _ h
  have h3:(pmO opsF z.2 (fun k=>x k i) (fun k=>y k j)).2=false:=h1
  have hz:z.2=false:=by
   cases hz:z.2 with
   | false=>rfl
   | true=>rw[hz,V1k]at h3;cases h3
  refine ⟨hz,fun a b=>?_⟩
  rw[h2 a b]
  by_cases hb:a=i∧j+1≤b∧b<j+1+n
  ·rw[if_pos hb,if_pos (by omega)]
  ·rw[if_neg hb]
   have e:(G0x opsF x y i j z).1 a b=bif Nat.beq a i&&Nat.beq b j then (pmO opsF z.2 (fun k=>x k i) (fun k=>y k j)).1 else z.1 a b:=rfl
   rw[e]
   by_cases hab:a=i∧b=j
   ·obtain ⟨rfl,rfl⟩:=hab
    rw[if_pos (by omega),hz]
    simp
   ·rw[if_neg (by omega)]
    have:(Nat.beq a i&&Nat.beq b j)=false:=by
     cases hc:(Nat.beq a i&&Nat.beq b j) with
     | false=>rfl
     | true =>
      rw[Bool.and_eq_true]at hc
      exact absurd ⟨Nat.eq_of_beq_eq_true hc.1,Nat.eq_of_beq_eq_true hc.2⟩ hab
    rw[this]
    rfl
theorem H0w(x y:Mx):∀(n i:Nat) (z:Mx×Bool),(A0k (D0r opsF x y) i n z).2=false→z.2=false∧∀a b,b<6→(A0k (D0r opsF x y) i n z).1 a b=if i≤a∧a<i+n then (pmO opsF false (fun k=>x k a) (fun k=>y k b)).1 else z.1 a b
 | 0,i,z,h=>⟨h,fun a b _=>by rw[if_neg (by omega)];rfl⟩
 | n+1,i,z,h=>by
  have hs:A0k (D0r opsF x y) i (n+1) z=A0k (D0r opsF x y) (i+1) n (D0r opsF x y i z):=rfl
  rw[hs]at h ⊢
  obtain ⟨h1,h2⟩:=H0w x y n (i+1) _ h
  obtain ⟨h3,h4⟩:=Q0g x y i 6 0 z h1
  refine ⟨h3,fun a b hb=>?_⟩
  rw[h2 a b hb]
  by_cases ha:i+1≤a∧a<i+1+n
  ·rw[if_pos ha,if_pos (by omega)]
  ·rw[if_neg ha]
   have h5:=h4 a b
   have e:(D0r opsF x y i z).1 a b=(A0k (G0x opsF x y i) 0 6 z).1 a b:=rfl
   rw[e,h5]
   by_cases hai:a=i
   ·subst hai
    rw[if_pos (by omega),if_pos (by omega)]
   ·rw[if_neg (by omega),if_neg (by omega)]
def SymX(m:Mx):Prop:=∀i j,i<6→j<6→m i j=m j i
theorem H1v(L:Mx){i j:Nat}(hi:i<6)(hj:j<6):(M6.of L).at i j=L i j:=by
 match i,j,hi,hj with
 | 0,0,_,_ | 0,1,_,_ | 0,2,_,_ | 0,3,_,_ | 0,4,_,_ | 0,5,_,_=>rfl
 | 1,0,_,_ | 1,1,_,_ | 1,2,_,_ | 1,3,_,_ | 1,4,_,_ | 1,5,_,_=>rfl
 | 2,0,_,_ | 2,1,_,_ | 2,2,_,_ | 2,3,_,_ | 2,4,_,_ | 2,5,_,_=>rfl
 | 3,0,_,_ | 3,1,_,_ | 3,2,_,_ | 3,3,_,_ | 3,4,_,_ | 3,5,_,_=>rfl
 | 4,0,_,_ | 4,1,_,_ | 4,2,_,_ | 4,3,_,_ | 4,4,_,_ | 4,5,_,_=>rfl
 | 5,0,_,_ | 5,1,_,_ | 5,2,_,_ | 5,3,_,_ | 5,4,_,_ | 5,5,_,_=>rfl
theorem V0j(o:Ops)(b:Bool)(x y:X13):T0w o b x y=(M6.of (A0k (D0r o x.at y.at) 0 6 (mx0,b)).1,(A0k (D0r o x.at y.at) 0 6 (mx0,b)).2):=rfl
theorem Q1h{b:Bool}{x:X13}(h:(T0w opsF b x x).2=false):b=false∧SymX (T0w opsF b x x).1.at:=by
 rw[V0j]at h ⊢
 dsimp only at h
 obtain ⟨h1,h2⟩:=H0w x.at x.at 6 0 (mx0,b) h
 refine ⟨h1,fun i j hi hj=>?_⟩
 dsimp only
 rw[H1v _ hi hj,H1v _ hj hi,h2 i j hj,h2 j i hi,if_pos (by omega),if_pos (by omega),K1z]
theorem Y1n(b:Bool)(m:M6)(p q:Int):(X0b opsF b m p q).2=false→SymX m.at→SymX (X0b opsF b m p q).1.at:=by
 intro _ h i j hi hj
 have key:∀a c,a<6→c<6→a≠c→(X0b opsF b m p q).1.at a c=m.at a c:=by
  intro a c ha hc hac
  refine (H1v _ ha hc).trans ?_
  unfold B2b
  dsimp only[setM]
  match a,c,ha,hc,hac with
  | 0,0,_,_,h | 1,1,_,_,h | 2,2,_,_,h | 3,3,_,_,h | 4,4,_,_,h | 5,5,_,_,h=>exact absurd rfl h
  | 0,1,_,_,_ | 0,2,_,_,_ | 0,3,_,_,_ | 0,4,_,_,_ | 0,5,_,_,_=>rfl
  | 1,0,_,_,_ | 1,2,_,_,_ | 1,3,_,_,_ | 1,4,_,_,_ | 1,5,_,_,_=>rfl
  | 2,0,_,_,_ | 2,1,_,_,_ | 2,3,_,_,_ | 2,4,_,_,_ | 2,5,_,_,_=>rfl
  | 3,0,_,_,_ | 3,1,_,_,_ | 3,2,_,_,_ | 3,4,_,_,_ | 3,5,_,_,_=>rfl
  | 4,0,_,_,_ | 4,1,_,_,_ | 4,2,_,_,_ | 4,3,_,_,_ | 4,5,_,_,_=>rfl
  | 5,0,_,_,_ | 5,1,_,_,_ | 5,2,_,_,_ | 5,3,_,_,_ | 5,4,_,_,_=>rfl
 by_cases e:i=j
 ·rw[e]
 ·rw[key i j hi hj e,key j i hj hi (fun h=>e h.symm)]
  exact h i j hi hj
theorem T2k{u:V4}(hu:QU u):∃m n,E0g false u.w u.x u.y=(m,false)∧E0g false m u.z 0=(n,false)∧-16≤n-1099511627776∧n-1099511627776≤16:=by
 have ux:(-1099511627776≤u.w∧u.w≤1099511627776):=hu.v.x
 have uy:(-1099511627776≤u.x∧u.x≤1099511627776):=hu.v.y
 have uz:(-1099511627776≤u.y∧u.y≤1099511627776):=hu.v.z
 have us:(-1099511627776≤u.z∧u.z≤1099511627776):=hu.s
 have hlo:1208925819614629174706176-16492674416640≤u.w*u.w+u.x*u.x+u.y*u.y+u.z*u.z:=hu.lo
 have hhi:u.w*u.w+u.x*u.x+u.y*u.y+u.z*u.z≤1208925819614629174706176+16492674416640:=hu.hi
 have s1:=E0q u.w
 have s2:=E0q u.x
 have s3:=E0q u.y
 have s4:=E0q u.z
 have e126:(2:Int)^126=85070591730234615865843651857942052864:=by decide
 obtain ⟨m,hm⟩:∃m,m=isq (u.w*u.w+u.x*u.x+u.y*u.y):=⟨_,rfl⟩
 obtain ⟨i0,i1,i2,i3⟩:=L0k (W:=u.w*u.w+u.x*u.x+u.y*u.y) (by omega) (by omega)
 rw[← hm]at i0 i1 i2 i3
 have hm8:m≤1099511627784:=by
  rcases Int.lt_or_le 1099511627784 m with h | h
  ·have :=Int.mul_le_mul (Int.le_of_lt h) (Int.le_of_lt h) (by omega) i0
   omega
  ·exact h
 have h1:E0g false u.w u.x u.y=(m,false):=by
  unfold E0g
  have hn:(false||!C0r [u.w,u.x,u.y])=false:=by
   simp only[C0r,K0t (x:=u.w) (by omega) (by omega),K0t (x:=u.x) (by omega) (by omega),K0t (x:=u.y) (by omega) (by omega)]
   rfl
  rw[hn,cond_false,← hm,decide_eq_false (by omega),cond_false]
 obtain ⟨n,hn⟩:∃n,n=isq (m*m+u.z*u.z+0*0):=⟨_,rfl⟩
 have m2:=E0q m
 obtain ⟨j0,j1,j2,j3⟩:=L0k (W:=m*m+u.z*u.z+0*0) (by omega) (by omega)
 rw[← hn]at j0 j1 j2 j3
 have hn8:n≤1099511627784:=by
  rcases Int.lt_or_le 1099511627784 n with h | h
  ·have :=Int.mul_le_mul (Int.le_of_lt h) (Int.le_of_lt h) (by omega) j0
   omega
  ·exact h
 have h2:E0g false m u.z 0=(n,false):=by
  unfold E0g
  have hq:(false||!C0r [m,u.z,0])=false:=by
   simp only[C0r,K0t (x:=m) (by omega) (by omega),K0t (x:=u.z) (by omega) (by omega),K0t (x:=0) (by omega) (by omega)]
   rfl
  rw[hq,cond_false,← hn,decide_eq_false (by omega),cond_false]
 have hnlo:1099511627760≤n:=by
  rcases Int.lt_or_le n 1099511627760 with h | h
  ·have h3:(n+1)*(n+1)≤1099511627760*1099511627760:=Int.mul_le_mul (by omega) (by omega) (by omega) (by omega)
   have h4:(m+1)*(m+1)=m*m+2*m+1:=by rw[Int.add_mul,Int.mul_add];omega
   omega
  ·exact h
 exact ⟨m,n,h1,h2,by omega,by omega⟩
theorem R2e{b:Bool}{q:V4}{bias:V3}{y:R6}{p:M6}(h:(stF b (q,bias,y,p,())).2=false):b=false∧(stF b (q,bias,y,p,())).1.b=true∧(stF b (q,bias,y,p,())).1.a.p=p∧QU (stF b (q,bias,y,p,())).1.a.q:=by
 unfold stF L1q T0y at h ⊢
 dsimp only at h ⊢
 rcases ht:tuF b ((D0m y).a,q,()) with ⟨t,f1⟩
 rw[ht]at h
 dsimp only at h ⊢
 rcases hu:E0p opsF f1 (t,()) with ⟨u,f2⟩
 rw[hu]at h
 dsimp only at h ⊢
 rcases hc:vop fadd f2 (bias,(D0m y).b,()) with ⟨c,f3⟩
 rw[hc]at h
 have h:f3=false:=h
 subst h
 have h2:f2=false:=by
  cases f2 with
  | false=>rfl
  | true=>have :=V3y (bias,(D0m y).b,());rw[hc]at this;cases this
 subst h2
 have h1:f1=false:=by
  cases f1 with
  | false=>rfl
  | true=>have :=B3k (t,());rw[hu]at this;cases this
 subst h1
 have h0:b=false:=by
  cases b with
  | false=>rfl
  | true=>have :=D2r ((D0m y).a,q,());rw[ht]at this;cases this
 exact ⟨h0,rfl,rfl,L1b hu⟩
theorem P4n{b:Bool}{a:V4×V3×R6×M6×Unit}(h:(stF b a).2=true):(stF b a).1=⟨Gs.zero,false⟩:=by
 unfold stF L1q at h ⊢
 dsimp only at h ⊢
 rw[h]
 rfl
def mvT(F:FOps)(g:Gs)(ms:Int)(mid:V4)(y:Mx×Bool):Gs×Bool :=
 let c:=F.cen y.2 (N0r y.1)
 let p:=F.pro c.2 c.1.x c.1.x
 let n:=mv3 F ms p.1 p.2
 let s:=F.st n.2 (mid,g.bias,c.1.m,n.1,())
 (s.1.a,s.2)
theorem D4r(F:FOps)(b:Bool)(g:Gs)(rate:V3)(ms:Int):∃mid y,W0z F b (g,rate,ms,())=mvT F g ms mid y:=⟨_,_,rfl⟩
theorem FPo:FP.o=opsF:=by simp only[FP]
theorem V4h:FP.pro=T0w opsF:=by simp only[FP]
theorem V4g:FP.ont=X0b opsF:=by simp only[FP]
theorem FPst:FP.st=stF:=by simp only[FP]
theorem B1n(m:M6)(p q:Int):(X0b opsF true m p q).2=true:=rfl
theorem W2y{ms:Int}{p:M6}{b:Bool}(h:(mv3 FP ms p b).2=false):b=false∧(SymX p.at→SymX (mv3 FP ms p b).1.at):=by
 unfold mv3 at h ⊢
 dsimp only at h ⊢
 rw[FPo,V4g,Y1j]at h ⊢
 cases b with
 | true =>
  rw[U0t]at h
  dsimp only at h
  rw[U0t]at h
  dsimp only at h
  rw[B1n]at h
  cases h
 | false=>exact ⟨rfl,fun hs=>Y1n _ _ _ _ h hs⟩
theorem A2u{F:FOps}(hst:F.st=stF)(hpro:F.pro=T0w opsF)(hm:∀{ms:Int} {p:M6} {b:Bool},(mv3 F ms p b).2=false→b=false∧(SymX p.at→SymX (mv3 F ms p b).1.at)){b:Bool}{g:Gs}{rate:V3}{ms:Int}(h:(W0z F b (g,rate,ms,())).2=false) :
  QU (W0z F b (g,rate,ms,())).1.q∧SymX (W0z F b (g,rate,ms,())).1.p.at:=by
 obtain ⟨mid,y,e⟩:=D4r F b g rate ms
 rw[e]at h ⊢
 unfold mvT at h ⊢
 dsimp only at h ⊢
 rw[hst,hpro]at h ⊢
 generalize F.cen y.2 (N0r y.1)=c at h ⊢
 obtain ⟨h1,_,h3,h4⟩:=R2e h
 obtain ⟨h5,h6⟩:=hm h1
 rw[h3]
 exact ⟨h4,h6 (Q1h h5).2⟩
theorem P1k{b:Bool}{g:Gs}{rate:V3}{ms:Int}(h:(W0z FP b (g,rate,ms,())).2=false):QU (W0z FP b (g,rate,ms,())).1.q∧SymX (W0z FP b (g,rate,ms,())).1.p.at:=A2u FPst V4h W2y h
theorem E2v(b:Bool)(x y:Int):fadd b x y=fadd b y x:=by
 unfold fadd
 rw[Int.add_comm x y]
 cases num x<;>cases num y<;>rfl
def hv(T:Mx)(i j:Nat)(b:Bool):Int×Bool:=G0m (fadd b (T i j) (T j i)).2 (fadd b (T i j) (T j i)).1 1 2
theorem H3v(T:Mx)(i j:Nat)(b:Bool):hv T i j b=hv T j i b:=by
 unfold hv
 rw[E2v]
theorem C4b(T:Mx)(i j:Nat):(hv T i j true).2=true:=rfl
theorem W2q(T:Mx)(i j n:Nat)(z:Mx×Bool):meH opsF T i j (n+1) z=meH opsF T i (j+1) n (setM z.1 i j (hv T i j z.2).1,(hv T i j z.2).2):=rfl
theorem E1w(T:Mx)(i:Nat):∀(n j:Nat) (z:Mx×Bool),(meH opsF T i j n z).2=false→z.2=false∧∀a b,(meH opsF T i j n z).1 a b=if a=i∧j≤b∧b<j+n then (hv T i b false).1 else z.1 a b
 | 0,j,z,h=>⟨h,fun a b=>by rw[if_neg (by omega)];rfl⟩
 | n+1,j,z,h=>by
  rw[W2q]at h ⊢
  obtain ⟨h1,h2⟩:=E1w T i n (j+1) _ h
  have hz:z.2=false:=by
   cases hz:z.2 with
   | false=>rfl
   | true=>rw[hz]at h1;have h1:(hv T i j true).2=false:=h1;rw[C4b]at h1;cases h1
  refine ⟨hz,fun a b=>?_⟩
  rw[h2 a b]
  by_cases hb:a=i∧j+1≤b∧b<j+1+n
  ·rw[if_pos hb,if_pos (by omega)]
  ·rw[if_neg hb]
   unfold setM
   by_cases hab:a=i∧b=j
   ·obtain ⟨rfl,rfl⟩:=hab
    rw[if_pos (by omega),hz]
    simp
   ·rw[if_neg (by omega)]
    have:(Nat.beq a i&&Nat.beq b j)=false:=by
     cases hc:(Nat.beq a i&&Nat.beq b j) with
     | false=>rfl
     | true =>
      rw[Bool.and_eq_true]at hc
      exact absurd ⟨Nat.eq_of_beq_eq_true hc.1,Nat.eq_of_beq_eq_true hc.2⟩ hab
    dsimp only
    rw[this]
    rfl
theorem GPo:GP.o=opsF:=by simp only[GP]
theorem GPst:GP.st=stF:=by simp only[GP]
theorem GPap:GP.ap=U0z opsF:=by simp only[GP]
theorem Y0g(T:Mx):∀(n i:Nat) (z:Mx×Bool),(A0k (meFH GP T) i n z).2=false→z.2=false∧∀a b,b<6→(A0k (meFH GP T) i n z).1 a b=if i≤a∧a<i+n then (hv T a b false).1 else z.1 a b
 | 0,i,z,h=>⟨h,fun a b _=>by rw[if_neg (by omega)];rfl⟩
 | n+1,i,z,h=>by
  have hs:A0k (meFH GP T) i (n+1) z=A0k (meFH GP T) (i+1) n (meFH GP T i z):=rfl
  have hm:meFH GP T i z=meH opsF T i 0 6 z:=by unfold meFH;rw[GPo]
  rw[hs,hm]at h ⊢
  obtain ⟨h1,h2⟩:=Y0g T n (i+1) _ h
  obtain ⟨h3,h4⟩:=E1w T i 6 0 z h1
  refine ⟨h3,fun a b hb=>?_⟩
  rw[h2 a b hb]
  by_cases ha:i+1≤a∧a<i+1+n
  ·rw[if_pos ha,if_pos (by omega)]
  ·rw[if_neg ha,h4 a b]
   by_cases hai:a=i
   ·subst hai
    rw[if_pos (by omega),if_pos (by omega)]
   ·rw[if_neg (by omega),if_neg (by omega)]
theorem A2e{T:Mx}{b:Bool}(h:(A0k (meFH GP T) 0 6 (mx0,b)).2=false):SymX (M6.of (A0k (meFH GP T) 0 6 (mx0,b)).1).at:=by
 obtain ⟨_,h2⟩:=Y0g T 6 0 (mx0,b) h
 intro i j hi hj
 rw[H1v _ hi hj,H1v _ hj hi,h2 i j hj,h2 j i hi,if_pos (by omega),if_pos (by omega),H3v]
theorem V3r:Bad (U0z opsF):=fun a=>by
 show (byN R6.zero a.2.2.1 true _).2=true
 unfold byN
 cases okN a.2.2.1<;>rfl
theorem V2e{g:Gs}{c:M6}{y:R6}{l:M6}{chi:Int}:((G0w GP g c y l chi).2=true∧(G0w GP g c y l chi).1=GCB.zero) ∨
  ((G0w GP g c y l chi).2=false∧(G0w GP g c y l chi).1.ok=true∧QU (G0w GP g c y l chi).1.g.q∧SymX (G0w GP g c y l chi).1.g.p.at∧(G0w GP g c y l chi).1.chi=chi):=by
 unfold G0w meZ
 dsimp only
 rw[GPst,GPap]
 generalize A0k (meFF GP l c) 0 6 (mx0,false)=k
 generalize A0k (meFG GP g.p.at k.1 c.at) 0 6 (mx0,k.2)=T
 rcases hp:A0k (meFH GP T.1) 0 6 (mx0,T.2) with ⟨P,f⟩
 dsimp only
 rcases ha:U0z opsF f (M6.of k.1,y,6,()) with ⟨a,f2⟩
 dsimp only
 cases hs:(stF f2 (g.q,g.bias,a,M6.of P,())).2 with
 | true =>
  refine .inl ⟨rfl,?_⟩
  rw[P4n hs]
  rfl
 | false =>
  obtain ⟨h1,h2,h3,h4⟩:=R2e hs
  subst h1
  have hf:f=false:=by
   cases f with
   | false=>rfl
   | true=>have :=V3r (M6.of k.1,y,6,());rw[ha]at this;cases this
  subst hf
  refine .inr ⟨rfl,h2,h4,?_,?_⟩
  ·rw[h3]
   have :=A2e (T:=T.1) (b:=T.2) (by rw[hp])
   rw[hp]at this
   exact this
  ·rw[h2]
   rfl
theorem W2w(F:GOps)(b:Bool)(g:Gs)(sky body:P2):∃c y l e,K0r F b (g,sky,body,())=T0m F g c y l e:=⟨_,_,_,_,rfl⟩
theorem P1e(b:Bool)(g:Gs)(sky body:P2):((K0r GP b (g,sky,body,())).2=true∧(K0r GP b (g,sky,body,())).1=GCB.zero) ∨
  ((K0r GP b (g,sky,body,())).2=false∧(K0r GP b (g,sky,body,())).1.ok=false∧(K0r GP b (g,sky,body,())).1.g=g∧(K0r GP b (g,sky,body,())).1.chi>32985348833280) ∨
  ((K0r GP b (g,sky,body,())).2=false∧(K0r GP b (g,sky,body,())).1.ok=true∧QU (K0r GP b (g,sky,body,())).1.g.q∧SymX (K0r GP b (g,sky,body,())).1.g.p.at∧(K0r GP b (g,sky,body,())).1.chi≤32985348833280):=by
 obtain ⟨c,y,l,e,he⟩:=W2w GP b g sky body
 rw[he]
 unfold T0m
 cases e.2 with
 | true=>exact .inl ⟨rfl,rfl⟩
 | false =>
  by_cases hc:e.1>32985348833280
  ·rw[decide_eq_true hc]
   exact .inr (.inl ⟨rfl,rfl,rfl,hc⟩)
  ·rw[decide_eq_false hc]
   rcases V2e (g:=g) (c:=c) (y:=y) (l:=l) (chi:=e.1) with ⟨h1,h2⟩ | ⟨h1,h2,h3,h4,h5⟩
   ·exact .inl ⟨h1,h2⟩
   ·refine .inr (.inr ⟨h1,h2,h3,h4,?_⟩)
    show (G0w GP g c y l e.1).1.chi≤_
    rw[h5]
    omega
theorem X0k{b:Bool}{q:V4}(h:(E0p opsF b (q,())).2=false):QU (E0p opsF b (q,())).1:=by
 cases b with
 | false=>exact L1b (Prod.ext rfl h)
 | true =>
  have e:(E0p opsF true (q,())).2=true:=by
   unfold E0p
   have hl:(qlen opsF true q).2=true:=rfl
   dsimp only
   rw[hl]
   cases decide ((qlen opsF true q).1<549755813888)<;>rfl
  rw[e]at h
  cases h
theorem T1u{b:Bool}{m:M9}(h:(H0t opsF (E0p opsF) b (m,())).2=false):QU (H0t opsF (E0p opsF) b (m,())).1:=by
 have key:∀(c:Bool) (x y:V4×Bool),(x.2=false→QU x.1)→(y.2=false→QU y.1)→((bif c then x else y).2=false→QU (bif c then x else y).1):=by
  intro c x y hx hy
  cases c
  ·exact hy
  ·exact hx
 revert h
 unfold H0t
 dsimp only
 cases fmF opsF m b with
 | true=>intro h;cases h
 | false =>
  rw[cond_false]
  unfold N1k
  have u:∀(f:Bool) (q:V4),(E0p opsF f (q,())).2=false→QU (E0p opsF f (q,())).1:=fun f q h=>X0k h
  exact key _ _ _ (key _ _ _ (key _ _ _ (u _ _) (u _ _)) (key _ _ _ (u _ _) (u _ _))) (key _ _ _ (key _ _ _ (u _ _) (u _ _)) (key _ _ _ (u _ _) (u _ _)))
theorem V1z:∀(n:Nat) (l:List UInt8),l.length≤n→(B0w l).2.1.length≤68:=by
 intro n
 induction n with
 | zero =>
  intro l h
  have:l=[]:=List.eq_nil_of_length_eq_zero (by omega)
  subst this
  rw[L0y]
  simp
 | succ n ih =>
  intro l h
  cases l with
  | nil=>rw[L0y];simp
  | cons b r =>
   have hr:r.length≤n:=by simpa using h
   have hskip:∀x:Scd,(N0m x).2.1=x.2.1:=fun _=>rfl
   by_cases hb:b=165
   ·subst hb
    rw[Z0e]
    have h1:=ih r hr
    split
    ·simp only[List.length_cons]at *;omega
    ·split
     ·rw[hskip];exact h1
     ·split
      ·simp only[List.length_cons]at *;omega
      ·split
       ·rename_i h3 _ _ _
        have hl:((165 :: r:List UInt8).drop (((165 :: r:List UInt8).getD 2 0).toNat+5)).length≤n:=by rw[List.length_drop];simp only[List.length_cons]at h3 ⊢;omega
        exact ih _ hl
       ·rw[hskip];exact h1
   ·rw[M0w hb,hskip]
    exact ih r hr
theorem XIn.heard68{tk gap m:Int}{g:Bool}{N:Nat}{x:CX}(h:XIn tk gap g m N x)(b:ByteArray):XIn tk gap g m 68 (W0v HR x (b,())):=by
 unfold W0v A2g
 refine XIn.hears _ ?_
 unfold H0z
 have h0:∀l:ByteArray,l.size≤68→XIn tk gap g m 68 (x.1,{x.2.1 with left:=l},x.2.2):=fun l hl=>{h with lsz:=hl}
 have hs:(bsL (B0w (x.2.1.left++b).data.toList).2.1).size≤68:=by
  rw[B0z]
  exact V1z _ _ (Nat.le_refl _)
 cases decide ((_:Int)>0)
 ·exact h0 _ hs
 ·exact (h0 _ hs).rejd
structure GsIn(g:Gs):Prop where
 q:QU g.q
 s:g.p.a.a+g.p.b.b+g.p.c.c≤274877906944
 n1:num (g.p.a.a+g.p.b.b)=true
 n2:num (g.p.a.a+g.p.b.b+g.p.c.c)=true
theorem P0x{b:Bool}{x y:Int}(h:(fadd b x y).2=false):b=false:=by
 cases b with
 | false=>rfl
 | true=>cases h
theorem C1u{b:Bool}{g:Gs}(h:(C0y b (g,())).2=false)(hs:¬ (C0y b (g,())).1>274877906944):b=false∧g.p.a.a+g.p.b.b+g.p.c.c≤274877906944∧num (g.p.a.a+g.p.b.b)=true∧num (g.p.a.a+g.p.b.b+g.p.c.c)=true:=by
 have e:C0y b (g,())=fadd (fadd b g.p.a.a g.p.b.b).2 (fadd b g.p.a.a g.p.b.b).1 g.p.c.c:=rfl
 rw[e]at h hs
 have h1:=P0x h
 have h2:=P0x h1
 subst h2
 obtain ⟨v1,_,_,n1⟩:=J1k (Prod.ext rfl h1:fadd false g.p.a.a g.p.b.b=((fadd false g.p.a.a g.p.b.b).1,false))
 rw[h1]at h hs
 obtain ⟨v2,_,_,n2⟩:=J1k (Prod.ext rfl h:fadd false (fadd false g.p.a.a g.p.b.b).1 g.p.c.c=((fadd false (fadd false g.p.a.a g.p.b.b).1 g.p.c.c).1,false))
 rw[v2,v1]at hs n2
 rw[v1]at n1
 exact ⟨rfl,by omega,n1,n2⟩
theorem V1p{b:Bool}{x y:X13}(h:(T0w opsF b x y).2=false):b=false:=by
 rw[V0j]at h
 have h2:(A0k (D0r opsF x.at y.at) 0 6 (mx0,b)).2=false:=by simpa only using h
 exact (H0w x.at y.at 6 0 (mx0,b) h2).1
theorem B1a{F:GOps}(hA:∀z,(A0k (meFA F) 0 2 (z,true)).2=true)(hx:∀a,(F.pt true a).2=true)(hB:∀q sky r,(meB F q sky r true).2=true)(hcen:∀x,(F.cen true x).2=true)(hpro:∀b x y,(F.pro b x y).2=false→b=false)
  (hont:∀m p q,(F.ont true m p q).2=true) (hD:∀m y,(A0k (meFD F m) 0 6 (y,true)).2=true) (hrt:∀a,(F.rt true a).2=true) (hso:∀a,(F.so true a).2=true) (hE:∀y u,(A0k (meFE F y u) 0 6 (0,true)).2=true) (a:Gs×P2×P2×Unit):(K0r F true a).2=true:=by
 have pro:∀(b:Bool) (x y:X13),b=true→(F.pro b x y).2=true:=by
  intro b x y hb
  cases h:(F.pro b x y).2 with
  | true=>rfl
  | false=>rw[hpro b x y h]at hb;cases hb
 unfold K0r
 dsimp only
 generalize hs:A0k (meFA F) 0 2 ((a.2.1,a.2.2.1),true)=s
 have hs2:s.2=true:=by rw[← hs];exact hA _
 generalize hx':F.pt s.2 (a.1,())=x
 have hx2:x.2=true:=by rw[← hx',hs2];exact hx _
 generalize hz:A0k (meFB F a.1.q s.1.1 x.1) 0 13 (mx0,x.2)=z
 have hz2:z.2=true:=by rw[← hz,hx2];exact J0w (fun i d=>hB ..) 13 0 mx0
 generalize hd:F.cen z.2 (N0r z.1)=d
 have hd2:d.2=true:=by rw[← hd,hz2];exact hcen _
 generalize hp:F.pro d.2 d.1.x d.1.x=p
 have hp2:p.2=true:=by rw[← hp];exact pro _ _ _ hd2
 generalize hc:F.pro p.2 x.1 d.1.x=c
 have hc2:c.2=true:=by rw[← hc];exact pro _ _ _ hp2
 generalize hn:F.ont c.2 p.1 67108864 268435456=n
 have hn2:n.2=true:=by rw[← hn,hc2];exact hont _ _ _
 generalize hy:A0k (meFD F d.1.m) 0 6 ((W0w s.1.2.a s.1.2.b).at,n.2)=y
 have hy2:y.2=true:=by rw[← hy,hn2];exact hD _ _
 generalize hl:F.rt y.2 (n.1,6,())=l
 have hl2:l.2=true:=by rw[← hl,hy2];exact hrt _
 generalize hu:F.so l.2 (l.1,R6.of y.1,6,())=u
 have hu2:u.2=true:=by rw[← hu,hl2];exact hso _
 generalize he:A0k (meFE F (R6.of y.1) u.1) 0 6 (0,u.2)=e
 have he2:e.2=true:=by rw[← he,hu2];exact hE _ _
 unfold T0m
 rw[he2]
 rfl
theorem D3p:GP.vu=N0q opsF:=by simp only[GP]
theorem C2p:GP.tu=tuF:=by simp only[GP]
theorem D3n:GP.qt=Q1m E0b:=by simp only[GP]
theorem C2k:GP.pt=ptF:=by simp only[GP]
theorem R1m:GP.cen=T0c opsF:=by simp only[GP]
theorem R1p:GP.pro=T0w opsF:=by simp only[GP]
theorem R1n:GP.ont=X0b opsF:=by simp only[GP]
theorem C2m:GP.rt=G0t opsF:=by simp only[GP]
theorem C2n:GP.so=V0a opsF:=by simp only[GP]
theorem M1p:Bad (N0q opsF):=fun a=>by
 have h:(E0t opsF true a).2=true:=rfl
 show (Y0p opsF a.1 (E0t opsF true a).1 (bif decide ((E0t opsF true a).1<1048576) then true else (E0t opsF true a).2)).2=true
 rw[h]
 cases decide ((E0t opsF true a).1<1048576)<;>rfl
theorem M1n:Bad (Q1m E0b):=fun _=>rfl
theorem R1y(x:X13):(T0c opsF true x).2=true:=by kernel_rfl
theorem J3q(F:GOps)(q:V4)(sky:P2)(r:R6)(b:Bool):(meB F q sky r b).2=(F.qt (F.qt (F.tu b ((D0m r).a,q,())).2 ((F.tu b ((D0m r).a,q,())).1,sky.a,())).2 ((F.tu b ((D0m r).a,q,())).1,sky.b,())).2:=rfl
theorem H2z(F:GOps)(m:R6)(i:Nat)(z:(Nat→Int)×Bool):(meFD F m i z).2=(F.o.sub z.2 (z.1 i) (m.at i)).2:=rfl
theorem J2a(F:GOps)(y u:R6)(i:Nat)(z:Int×Bool):(meFE F y u i z).2=(F.o.add (F.o.mul z.2 (y.at i) (u.at i)).2 z.1 (F.o.mul z.2 (y.at i) (u.at i)).1).2:=rfl
theorem K1g(a:Gs×P2×P2×Unit):(K0r GP true a).2=true:=by
 refine B1a (fun z=>?_) (fun a=>by rw[C2k];exact B3g a) (fun q sky r=>?_) (fun x=>by rw[R1m];exact R1y x) (fun b x y=>by rw[R1p];exact V1p) (fun m p q=>by rw[R1n];exact B1n m p q) (fun m y=>?_) (fun a=>by rw[C2m];exact B3h a) (fun a=>by rw[C2n];exact B3j a) (fun y u=>?_) a
 ·have step:∀i d,(meFA GP i (d,true)).2=true:=by
   intro i d
   have h:∀x y,(GP.vu (GP.vu true x).2 y).2=true:=fun x y=>by rw[D3p,M1p];exact M1p _
   unfold meFA
   cases i with
   | zero=>exact h (d.1.a,()) (d.2.a,())
   | succ n=>exact h (d.1.b,()) (d.2.b,())
  exact J0w step 2 0 z
 ·have h:∀x y z,(GP.qt (GP.qt (GP.tu true x).2 y).2 z).2=true:=fun x y z=>by rw[D3n,C2p,D2r,M1n];exact M1n _
  rw[J3q]
  exact h _ _ _
 ·have step:∀i d,(meFD GP m i (d,true)).2=true:=by
   intro i d
   rw[H2z,GPo]
   rfl
  exact J0w step 6 0 y
 ·have step:∀i d,(meFE GP y u i (d,true)).2=true:=by
   intro i d
   rw[J2a,GPo]
   rfl
  exact J0w step 6 0 0
theorem Z0z{x:CX}(h:(J0p x).1.seen.bad=false):GsIn (J0p x).2.1.guess:=by
 have hc:∀{c:Bool} {y z:CX},(y.1.seen.bad=false→GsIn y.2.1.guess)→(z.1.seen.bad=false→GsIn z.2.1.guess)→((bif c then y else z).1.seen.bad=false→GsIn (bif c then y else z).2.1.guess):=by
  intro c y z hy hz
  cases c
  ·exact hz
  ·exact hy
 have hE:∀(g:Gs) (p f:Bool),(f=false→QU g.q)→(N0v C0y x g p f).1.seen.bad=false→GsIn (N0v C0y x g p f).2.1.guess:=by
  intro g p f hg
  unfold N0v
  cases hd:decide ((C0y f (g,())).1>274877906944) with
  | true=>intro h;cases h
  | false =>
   intro h
   have h:(C0y f (g,())).2=false:=h
   obtain ⟨h1,h2,h3,h4⟩:=C1u h (of_decide_eq_false hd)
   exact ⟨hg h1,h2,h3,h4⟩
 have hM:∀(a:Gs×Bool),(a.2=false→QU a.1.q)→(N0w D1r C0y x a).1.seen.bad=false→GsIn (N0w D1r C0y x a).2.1.guess:=by
  intro a ha
  unfold N0w
  refine hc (hc (hE _ _ _ fun hf=>?_) (hE _ _ _ ha)) (hE _ _ _ ha)
  unfold D1r at hf ⊢
  rcases P1e a.2 a.1 x.1.sky x.1.body with ⟨h1,_⟩ | ⟨_,_,h3,_⟩ | ⟨_,_,h3,_⟩
  ·rw[h1]at hf;cases hf
  ·rw[h3]
   refine ha ?_
   cases h2:a.2 with
   | false=>rfl
   | true=>rw[h2,K1g]at hf;cases hf
  ·exact h3
 have hV:∀(g:Gs) (r:V3) (t:Int),(U1e false (g,r,t,())).2=false→QU (U1e false (g,r,t,())).1.q:=fun g r t h=>(P1k (b:=false) (g:=g) (rate:=r) (ms:=t) h).1
 revert h
 unfold J0p V2j
 exact hc (hc (hM _ (hV _ _ _)) (hM _ (hV _ _ _))) (hM _ (hV _ _ _))
theorem D2p{p:P2×P2×Unit}(h:(G0q false p).2=false):QU (G0q false p).1:=by
 revert h
 unfold G0q
 dsimp only
 cases (apart (H0r E0b) false (p.1.a,p.1.b,())).1 with
 | false=>intro h;cases h
 | true =>
  rw[Bool.not_true,cond_false]
  cases (apart (H0r E0b) (apart (H0r E0b) false (p.1.a,p.1.b,())).2 (p.2.1.a,p.2.1.b,())).1 with
  | false=>intro h;cases h
  | true =>
   rw[Bool.not_true,cond_false]
   unfold H1w
   exact T1u
theorem L1v{q:V4}(h:QU q):GsIn (H1h (q,())):=⟨h,by show (17179869184:Int)+17179869184+17179869184≤274877906944;decide,rfl,rfl⟩
theorem K1h{p:Pl}{s:Sn}(h:(H0v p s).mode=2)(hp:p.mode=2):s.gap=false∧s.bad=false:=by
 revert h
 unfold H0v
 rw[hp]
 cases s.order==1 with
 | true=>intro h;exact absurd h (by show ¬ (3:Int)=2;omega)
 | false =>
 rw[cond_false,show ((2:Int)==3)=false from rfl,show ((2:Int)==0)=false from rfl,show ((2:Int)==1)=false from rfl,show ((2:Int)==2)=true from rfl,cond_false,cond_false,cond_false,cond_true]
 unfold G2d
 cases s.gap with
 | true=>intro h;exact absurd h (by show ¬ (1:Int)=2;omega)
 | false =>
 rw[cond_false]
 cases s.bad with
 | true=>intro h;exact absurd h (by show ¬ (1:Int)=2;omega)
 | false=>exact fun _=>⟨rfl,rfl⟩
theorem J1m{x:CX}(hm:(cstF ST x).2.1.plan.mode=2)(hg:(cstF ST x).1.seen.gap=false)(hb:(cstF ST x).1.seen.bad=false):GsIn (cstF ST x).2.1.guess:=by
 have hf:ST.fi=J0p:=rfl
 unfold cstF at hm hg hb ⊢
 rw[hf]at hm hg hb ⊢
 cases h2:x.2.1.plan.mode==2 with
 | true =>
  rw[h2,cond_true]at hm hg hb
  rw[cond_true]
  cases h3:x.1.seen.gap with
  | true =>
   rw[h3,Bool.not_true,cond_false]at hg
   rw[h3]at hg
   cases hg
  | false =>
   rw[h3,Bool.not_false,cond_true]at hb
   rw[Bool.not_false,cond_true]
   exact Z0z hb
 | false =>
  rw[h2,cond_false]at hm
  rw[hm]at h2
  cases h2
structure E1a(c:Crf):Prop where
 y:c.plan.mode=2→GsIn c.guess
 n:c.plan.mode≠2→c.guess=Gs.zero
theorem V1h{x:CX}(hx:x.2.1.plan.mode=2→x.1.seen.gap=false→x.1.seen.bad=false→GsIn x.2.1.guess):E1a (N0h x).2.1:=by
 unfold N0h P2g
 dsimp only
 cases h2:(H0v x.2.1.plan x.1.seen).mode==2 with
 | true =>
  rw[cond_true]
  have h2:(H0v x.2.1.plan x.1.seen).mode=2:=by simpa using h2
  have h2n:((H0v x.2.1.plan x.1.seen).mode != 2)=false:=by rw[h2];rfl
  cases hm:x.2.1.plan.mode != 2 with
  | true =>
   rw[cond_true]
   cases ha:(G0q false (x.1.sky,x.1.body,())).2 with
   | true=>exact ⟨fun h=>absurd h (by show ¬ (1:Int)=2;omega),fun _=>rfl⟩
   | false =>
    rw[cond_false,h2n,cond_false]
    exact ⟨fun _=>L1v (D2p ha),fun h=>absurd h2 h⟩
  | false =>
   rw[cond_false,h2n,cond_false]
   have hm:x.2.1.plan.mode=2:=by simpa using hm
   obtain ⟨g1,g2⟩:=K1h h2 hm
   exact ⟨fun _=>hx hm g1 g2,fun h=>absurd h2 h⟩
 | false =>
  rw[cond_false]
  have h2:¬ (H0v x.2.1.plan x.1.seen).mode=2:=by simpa using h2
  have h2n:((H0v x.2.1.plan x.1.seen).mode != 2)=true:=by simpa using h2
  rw[h2n,cond_true]
  exact ⟨fun h=>absurd h h2,fun _=>rfl⟩
theorem J1h(tk:Int)(x:CX):E1a (endX ST tk x).2.1:=by
 have h:=V1h (x:=cstF ST (ST.lk (cstD ST x))) fun h1 h2 h3=>J1m h1 h2 h3
 exact ⟨h.y,h.n⟩
theorem V2w(g:Gs):gsK g g=true:=by simp[gsK,J1j]
theorem H2h{c:Crf}(hc:CIn c)(hl:c.left.size≤68)(hf:E1a c):H2g (c,())=true:=by
 have e:(heL c).all (!·)=true:=by
  obtain ⟨⟨m0,m1⟩,⟨c0,c1⟩,⟨g0,g1⟩,⟨i0,i1⟩,⟨l0,l1⟩,⟨f0,f1⟩⟩:=hc.pl
  have r:=hc.rej
  have a:=hc.ack
  have e:=hc.err
  unfold heL
  rw[List.all_eq_true]
  intro b hb
  simp only[List.mem_cons,List.not_mem_nil,or_false]at hb
  have key:∀{p:Prop} [Decidable p],¬ p→b=decide p→(!b)=true:=fun hn hb=>by rw[hb,decide_eq_false hn];rfl
  rcases hb with hb | hb | hb | hb | hb | hb | hb | hb | hb | hb | hb | hb | hb | hb | hb | hb | hb | hb | hb<;>exact key (by omega) hb
 unfold H2g
 rw[e,Bool.true_and]
 dsimp only
 cases hm:c.plan.mode != 2 with
 | true =>
  rw[cond_true,hf.n (by simpa using hm)]
  exact V2w _
 | false =>
  rw[cond_false]
  obtain ⟨hq,hs,n1,n2⟩:=hf.y (by simpa using hm)
  obtain ⟨m,n,e1,e2,e3,e4⟩:=T2k hq
  have hn:heN (op3 E0g) c.guess=(n,false):=by
   unfold heN op3
   dsimp only
   rw[e1]
   dsimp only
   rw[e2]
  have hd:heD (op3 E0g) c.guess=n-1099511627776:=by
   unfold heD
   rw[hn]
   exact A0q (by omega) (by omega)
  have b1:=G0e.1 n1
  have b2:=G0e.1 n2
  have w1:IntKind.i64.wrap (c.guess.p.a.a+c.guess.p.b.b)=c.guess.p.a.a+c.guess.p.b.b:=A0q (by omega) (by omega)
  have w2:IntKind.i64.wrap (c.guess.p.a.a+c.guess.p.b.b+c.guess.p.c.c)=c.guess.p.a.a+c.guess.p.b.b+c.guess.p.c.c:=A0q (by omega) (by omega)
  rw[hn,hd,w1,w2,decide_eq_true (by omega:n-1099511627776≤16),decide_eq_true (by omega:n-1099511627776≥-16),decide_eq_true hs]
  rfl
theorem N2u{x:CX}(h:CIn x.2.1)(ht:A0z x.1.tk=true):szOk (cstT ST x,())=true∧B0d (cstT ST x)=⟨⟨32,D0g (H0h x)⟩,true⟩:=by
 have hd:(D0g (H0h x)).data.toList.length=26:=M0z (H0h x)
 have ho:B0d (cstT ST x)=⟨⟨32,D0g (H0h x)⟩,true⟩:=by
  have e:=G1v (k:=32) (d:=(D0g (H0h x)).data.toList) (by omega) (by omega)
  rw[H0y]at e
  rw[M1c h ht]
  exact e
 refine ⟨decide_eq_true ?_,ho⟩
 show (cstT ST x).size≤_
 rw[M1c h ht,B0z]
 unfold H0m G0j
 simp[hd]
def HO:V0z:={aw:=true,pre:=B0y,g:=D0d,sz:=szOk,op:=fun q=>B0d q.1,rp:=N0j,rd:=fun q=>R0t q.1.data,hl:=H2g}
theorem H3z(k t:Int):fnSum Tryz.prog {gam:=[]} [] 20 28 [.val (.int .i64 k),.val (.int .i64 t)] []=some (.val (.int .i64 (A0m k t)),[]):=by kernel_rfl
theorem N3h:A0h Tryz.prog 28 (S0 fun (p:Int×Int×Unit)=>A0m p.1 p.2.1):=H0n (E:={gam:=[]}) GamOk.nil 20 fun a=>H3z a.1 a.2.1
theorem B5y:GamOk Tryz.prog (P0z HO):=.cons X2n (.cons K1m (.cons N3h (.cons B1k (.cons N2c (.cons K4y .nil)))))
theorem A1k:∀(rs:List Rec) (c:Crf) (tk:Int),CIn c→c.left.size+(rs.map fun r=>r.2.size).sum≤1099511627776→HoOk HO c tk rs
 | [],_,_,_,_=>trivial
 | r :: t,c,tk,hc,hs=>by
  simp only[List.map_cons,List.sum_cons]at hs
  unfold HoOk
  have eg:HO.g=D0d:=rfl
  have ep:HO.pre=B0y:=rfl
  rw[eg,ep]
  cases hl:P0g c ST.rt (A0m tk r.1) with
  | true =>
   have e:D0d (c,A0m tk r.1,r.2,())=⟨c,⟨#[]⟩⟩:=by unfold D0d X0q;dsimp only;rw[hl];rfl
   have hp:B0y (c,A0m tk r.1,r.2,())=true:=by unfold B0y J0z;dsimp only;rw[hl];rfl
   have em:((⟨#[]⟩:ByteArray).toList==(⟨#[]⟩:ByteArray).toList)=true:=by simp
   rw[e]
   exact ⟨hp,fun _=>⟨Z0t c,A1k t c (A0m tk r.1) hc (by omega)⟩,fun h=>(by rw[em]at h;cases h)⟩
  | false =>
   obtain ⟨ht,hon⟩:=K1b hl
   generalize hk:A0m tk r.1=k at *
   have hx0:=(hc.start k (N:=c.left.size+r.2.size) (by omega))
   have hx:XIn k (gapV c k) (gapV c k==0) c.plan.mode (c.left.size+r.2.size) (cstH ST c k r.2):=hx0.heard r.2 (Nat.le_refl _)
   have hx68:XIn k (gapV c k) (gapV c k==0) c.plan.mode 68 (cstH ST c k r.2):=hx0.heard68 r.2
   have hi:=X1m hx ht
   have hleft:=Z0c hx
   have hleft68:=Z0c hx68
   have htk:(endX ST k (cstH ST c k r.2)).1.tk=k:=L1w hx k
   have hic:A0z (endX ST k (cstH ST c k r.2)).1.tk=true:=by rw[htk];exact ht
   obtain ⟨b1,b2⟩:=N2u (x:=endX ST k (cstH ST c k r.2)) hi hic
   have e:D0d (c,k,r.2,())=⟨(endX ST k (cstH ST c k r.2)).2.1,cstT ST (endX ST k (cstH ST c k r.2))⟩:=by unfold D0d X0q;dsimp only;rw[hl];rfl
   have hp:B0y (c,k,r.2,())=true:=by
    unfold B0y J0z
    dsimp only
    rw[hl,cond_false]
    have h1:ST.hp (stp1 c k,c,rds0) (r.2,())=true:=decide_eq_true (by show c.left.size+r.2.size≤_;omega)
    rw[h1,hx.driftOk]
    rfl
   have hne:=Z0g (endX ST k (cstH ST c k r.2))
   have hheld:=H2h hi hleft68 (J1h k (cstH ST c k r.2))
   have hr:=Q2a (X0t hi hic)
   have esz:HO.sz=szOk:=rfl
   have erp:HO.rp=N0j:=rfl
   have eop:∀q,HO.op q=B0d q.1:=fun _=>rfl
   have erd:∀q,HO.rd q=R0t q.1.data:=fun _=>rfl
   rw[e,esz,erp,eop,erd]
   dsimp only
   rw[b2]
   dsimp only
   rw[hr]
   refine ⟨hp,fun h=>(by rw[hne]at h;cases h),fun _=>⟨b1,?_,?_,A1k t _ k hi (by omega)⟩⟩
   ·have hsz:(D0g (H0h (endX ST k (cstH ST c k r.2)))).size=26:=M0z _
    unfold N0j
    dsimp only
    rw[hsz]
    rfl
   ·unfold N1w
    dsimp only
    have e1:(H0h (endX ST k (cstH ST c k r.2))).tk=k:=htk
    have eh:HO.hl=H2g:=rfl
    rw[e1,eh,hheld]
    have e2:(H0h (endX ST k (cstH ST c k r.2))).mode=(endX ST k (cstH ST c k r.2)).2.1.plan.mode:=rfl
    have e3:(H0h (endX ST k (cstH ST c k r.2))).rej=(endX ST k (cstH ST c k r.2)).2.1.rej:=rfl
    have e4:(H0h (endX ST k (cstH ST c k r.2))).faults=(endX ST k (cstH ST c k r.2)).2.1.plan.faults:=rfl
    rw[e2,e3,e4]
    simp
theorem N1d:∀(rs:List Rec) (s:Int),(∀r∈rs,r.2.size≤140737488355328)→0≤s→s≤3000→M0q s rs=true→s+((rs.map fun r=>r.2.size).sum:Nat)≤3000
 | [],s,_,_,h,_=>by simpa using h
 | r :: t,s,hz,h0,h1,h=>by
  have hr:=hz r (List.mem_cons_self ..)
  have e:wI (s+(r.2.size:Int))=s+(r.2.size:Int):=K0c (by omega) (by omega)
  unfold M0q at h
  rw[e]at h
  by_cases hb:s+(r.2.size:Int)>3000
  ·rw[decide_eq_true hb]at h;cases h
  ·rw[decide_eq_false hb,cond_false]at h
   have :=N1d t _ (fun x hx=>hz x (List.mem_cons_of_mem _ hx)) (by omega) (by omega) h
   simp only[List.map_cons,List.sum_cons]
   omega
theorem U4z(bg:Int)(a:Option Addr)(c:Nat)(rs:List Rec)(w:World)(hat:RecAt w a rs.length rs)(hz:∀r∈rs,r.2.size≤140737488355328) :
  Calls Tryz.prog 9 #[.int .i64 bg,.slice a rs.length c] w fun e w'=>∃v,e=.returned v∧RowKit.Below w.heap.size w w'∧v=.bool true :=
 T1v B5y rfl bg a c rs w hat fun hf _ _=>A1k rs crf0 bg T1h (by
  unfold fewV at hf
  simp only[Bool.and_eq_true]at hf
  have :=N1d rs 0 hz (by omega) (by omega) hf.1
  show 0+_≤_
  omega)
end Go.Ab
