/- A part of the proofs: lemmas, no statement of their own; no condition. -/
import Derived.Test.YtoocjipllmkjcaaGreatGCrQ
set_option linter.unusedSimpArgs false
namespace Go.Ab
open Go Go.Proofs
theorem D2q:B0y (crf0,5,⟨#[]⟩,())=true:=by kernel_rfl
theorem D3z:(D0d (crf0,5,⟨#[]⟩,())).a.on=true:=by kernel_rfl
theorem V4w:(D0d (crf0,5,⟨#[]⟩,())).a.tk=5:=by kernel_rfl
theorem E3a:(D0d (crf0,5,⟨#[]⟩,())).b.size=31:=by kernel_rfl
theorem E3b(pre:StpA→Bool)(g:StpA→Two Crf ByteArray):fnSum Tryz.prog {gam:=[(25,S0w pre g)]} [] 20 23 [] [] =
  bif pre (crf0,5,⟨#[]⟩,()) then bif (g (crf0,5,⟨#[]⟩,())).a.on then bif (g (crf0,5,⟨#[]⟩,())).a.tk==5 then some (.val (.bool (((g (crf0,5,⟨#[]⟩,())).b.size:Int)==31)),[]) else some (.val (.bool false),[]) else some (.val (.bool false),[]) else none:=by kernel_rfl
theorem X2n:A0h Tryz.prog 23 (S0 fun (_:Unit)=>true):=H0n (E:={gam:=[(25,S0w B0y D0d)]}) (.cons K1m .nil) 20 fun a=>by
 refine (E3b B0y D0d).trans ?_
 rw[D2q,D3z,V4w,E3a]
 rfl
theorem W2k(pre:StpA→Bool)(g:StpA→Two Crf ByteArray)(tp:ByteArray×Unit→Bool)(td:ByteArray×Unit→Two Tl Bool):fnSum Tryz.prog {gam:=[(25,S0w pre g),(44,S0c tp td)]} [] 20 13 [] [] =
  bif pre (crf0,5,⟨#[]⟩,()) then bif tp ((g (crf0,5,⟨#[]⟩,())).b,()) then bif (g (crf0,5,⟨#[]⟩,())).a.on then bif (td ((g (crf0,5,⟨#[]⟩,())).b,())).b then bif (td ((g (crf0,5,⟨#[]⟩,())).b,())).a.mode==0 then
   some (.val (.bool ((td ((g (crf0,5,⟨#[]⟩,())).b,())).a.tk==5)),[]) else some (.val (.bool false),[]) else some (.val (.bool false),[]) else some (.val (.bool false),[]) else none else none:=by kernel_rfl
theorem T1h:CIn crf0:=⟨⟨by decide,by decide,by decide,by decide,by decide,by decide⟩,by decide,by decide,by decide,by kernel_rfl,by decide⟩
theorem D3y:(D0d (crf0,5,⟨#[]⟩,())).a.plan.mode=0:=by kernel_rfl
theorem aw_x:D0d (crf0,5,⟨#[]⟩,())=⟨(endX ST 5 (cstH ST crf0 5 ⟨#[]⟩)).2.1,cstT ST (endX ST 5 (cstH ST crf0 5 ⟨#[]⟩))⟩:=by
 have hl:P0g crf0 ST.rt 5=false:=by kernel_rfl
 unfold D0d X0q
 dsimp only
 rw[hl]
 rfl
theorem L1w{tk gap m:Int}{g:Bool}{N:Nat}{x:CX}(h:XIn tk gap g m N x)(t:Int):(endX ST t x).1.tk=tk:=by
 have h1:=h.ahead
 have h2:=K1y h1
 unfold endX
 show (N0h _).1.tk=tk
 rw[h2.s]
 exact h1.stk
theorem X2u:A0h Tryz.prog 13 (S0 fun (_:Unit)=>true):=H0n (E:={gam:=[(25,S0w B0y D0d),(44,S0c N0p M1b)]}) (.cons K1m (.cons C3n .nil)) 20 fun a=>by
 have hx:=(T1h.start 5 (N:=0) (Nat.le_refl _)).heard ⟨#[]⟩ (Nat.le_refl _)
 have ht:A0z 5=true:=by kernel_rfl
 have hc:=X1m hx ht
 have hk:(endX ST 5 (cstH ST crf0 5 ⟨#[]⟩)).1.tk=5:=L1w hx 5
 obtain ⟨b1,b2⟩:=D1c (x:=endX ST 5 (cstH ST crf0 5 ⟨#[]⟩)) hc (by rw[hk];exact ht)
 refine (W2k B0y D0d N0p M1b).trans ?_
 have hon:=D3z
 have hm:=D3y
 rw[D2q]
 rw[aw_x]at hon hm ⊢
 dsimp only at hon hm ⊢
 rw[b1,b2,hon]
 have e1:(H0h (endX ST 5 (cstH ST crf0 5 ⟨#[]⟩))).mode=0:=hm
 have e2:(H0h (endX ST 5 (cstH ST crf0 5 ⟨#[]⟩))).tk=5:=hk
 dsimp only
 rw[e1,e2]
 rfl
abbrev Rec:=Int×ByteArray
structure RecAt(w:World)(a:Option Addr)(n:Nat)(rs:List Rec):Prop where
 len:rs.length=n
 small:n≤140737488355328
 lies:∀i (hi:i<rs.length),∃ad,a=some ad∧ad.block<w.heap.size∧w.cell? (ad.add (i*2+0))=some (.int .i64 rs[i].1)∧w.cell? (ad.add (i*2+1))=some (.string rs[i].2)
theorem U0k(ad:Addr)(k:Nat):(ad.add k).block=ad.block:=by unfold Addr.add;split<;>rfl
theorem RecAt.later{w w':World}{a:Option Addr}{n:Nat}{rs:List Rec}(h:RecAt w a n rs)(hg:w.heap.size≤w'.heap.size)(hk:∀k,k<w.heap.size→w'.heap[k]?=w.heap[k]?):RecAt w' a n rs:=by
 refine ⟨h.len,h.small,fun i hi=>?_⟩
 obtain ⟨ad,h1,h2,h3,h4⟩:=h.lies i hi
 refine ⟨ad,h1,by omega,?_,?_⟩
 ·simp only[World.cell?,U0k,hk _ h2]at h3 ⊢
  exact h3
 ·simp only[World.cell?,U0k,hk _ h2]at h4 ⊢
  exact h4
theorem v22s:Tryz.prog.underlying 22=some (.slice 70):=by kernel_rfl
theorem i70:(Tryz.prog.info? 70).map (·.size)=some 2:=by kernel_rfl
theorem u70:(Tryz.prog.underlying 70).map R0n=some true:=by kernel_rfl
theorem N1z:∃ti,Tryz.prog.info? 70=some ti∧ti.size=2:=T1z i70
theorem Q5m:∃td,Tryz.prog.underlying 70=some td∧R0n td=true:=by
 have h:=u70
 cases hu:Tryz.prog.underlying 70 with
 | none=>rw[hu]at h;cases h
 | some d=>rw[hu]at h;exact ⟨d,rfl,by simpa using h⟩
theorem L1m{w:World}{ad:Addr}{k:Int}{d:ByteArray}(h0:w.cell? (ad.add 0)=some (.int .i64 k))(h1:w.cell? (ad.add 1)=some (.string d)):(loadVar 70 ad).run Tryz.prog w=.ok (.agg (List.toArray [.int .i64 k,.string d])) w:=by
 obtain ⟨ti,hti,hs⟩:=N1z
 obtain ⟨td,htd,hag⟩:=Q5m
 unfold loadVar
 rw[Sem.run_bind,M0v htd w,hag]
 simp only[Result.andThen_ok,if_true,Sem.run_bind,B0q hti w]
 have :=Q0m (P:=Tryz.prog) (w:=w) (a:=ad) ti.size 0 [.int .i64 k,.string d] #[] (by rw[hs];rfl) fun j c hj=>by
  match j,hj with
  | 0,hj=>cases hj;exact h0
  | 1,hj=>cases hj;exact h1
  | j+2,hj=>simp at hj
 unfold loadCells
 rw[this]
 simp
noncomputable def lgR:Nat→Code
 | 0=>Tryz.f14.body.getD .skip
 | k+1=>seqR (lgR k)
noncomputable def lgL(k:Nat):Code:=seqL (lgR k)
noncomputable def lgB:Code:=inB (inB (seqR (lgL 2)))
noncomputable def lgB1:Code:=inB (seqL (seqR (seqR lgB)))
noncomputable def lgO4:Array Oper:=regO (seqL lgB1)
theorem G5b:Tryz.f14.body=some (.seq (lgL 0) (.seq (lgL 1) (.seq (.seq (seqL (lgL 2)) (.block 0 (.loop (.seq (seqL lgB) (.seq (seqL (seqR lgB)) (.seq (.block 1 (.seq (.region 4 lgO4 false) (seqR lgB1))) (seqR (seqR (seqR lgB))))))))) (lgR 3)))):=by kernel_rfl
theorem B3v:Tryz.prog.funcs[14]?=some Tryz.f14:=by kernel_rfl
theorem A5u:Tryz.f14.ntmps=35:=by kernel_rfl
theorem E5y:B0a lgO4 0=some (.indexAddr 22 (.tmp 7) (.tmp 9),some 11,true):=by kernel_rfl
theorem E5z:B0a lgO4 1=some (.load 70 (.tmp 11),some 12,true):=by kernel_rfl
theorem G5a:List.range lgO4.size=0 :: 1 :: ((List.range (lgO4.toList.drop 2).length).map (2+·)++[]):=by kernel_rfl
def D1v(bg:Int)(a:Option Addr)(n c:Nat):Con:=.row 24 [.val (.int .i64 bg),.val (.slice a n c)]
def lN1:Nat:=4096+1*2^180
def lN2:Nat:=4096+2*2^180
def lgS(bg:Int)(a:Option Addr)(n c:Nat)(tm:List (Nat×AV)):St:=gSt 35 ([(1,.ptr 4096 0),(2,.val (.bool false))]++tm) [(4096,D1v bg a n c)] lN1
def lgI(bg:Int)(a:Option Addr)(n c:Nat)(s i:Int)(tm:List (Nat×AV)):St:=lgS bg a n c ([(3,.val (.int .i64 s)),(7,.val (.slice a n c)),(8,.val (.int .i64 n)),(9,.val (.int .i64 i))]++tm)
def lgF(bg:Int)(a:Option Addr)(n c:Nat)(s i k:Int)(d:ByteArray):St:=gSt 35 [(1,.ptr 4096 0),(2,.val (.bool false)),(3,.val (.int .i64 s)),(7,.val (.slice a n c)),(8,.val (.int .i64 n)),(9,.val (.int .i64 i)),(5,.ptr lN1 0)] [(4096,D1v bg a n c),(lN1,.row 70 [.val (.int .i64 k),.val (.string d)])] lN2
def lgV(b:Bool)(lo:Nat):St:=gSt 35 [(2,.val (.bool b))] [] lo
section
variable (bg s i k:Int) (a:Option Addr) (ad:Addr) (n c:Nat) (t:Bool) (d:ByteArray)
noncomputable abbrev D1q(c:Code)(s:St)(ks ts:List Nat):Option (Ex×St):=gRun Tryz.prog {gam:=[]} 35 c s ks ts
theorem G5c:D1q (lgL 0) (B0t 35 [.val (.agg #[.int .i64 bg,.slice a n c])] []) [4096] [1,2]=some (.normal,lgS bg a n c []):=by kernel_rfl
theorem G5d:D1q (lgL 1) (lgS bg a n c []) [4096] [1,2,3]=some (.normal,lgS bg a n c [(3,.val (.int .i64 0))]):=by kernel_rfl
theorem G5e:D1q (seqL (lgL 2)) (lgS bg a n c [(3,.val (.int .i64 0))]) [4096] [1,2,3,7,8,9]=some (.normal,lgI bg a n c 0 0 []):=by kernel_rfl
theorem C4k:D1q (seqL lgB) (lgI bg a n c s i []) [4096] [1,2,3,7,8,9,10]=some (.normal,lgI bg a n c s i [(10,.val (.bool (decide (i<n))))]):=by kernel_rfl
theorem C4m:D1q (seqL (seqR lgB)) (lgI bg a n c s i [(10,.val (.bool t))]) [4096] [1,2,3,7,8,9]=bif t then some (.normal,lgI bg a n c s i []) else some (.exit 0,lgI bg a n c s i []):=by kernel_rfl
theorem G5g:B0j Tryz.prog (B0v Tryz.prog {gam:=[]} 4 (Bool×St)) (B0p []) 35 lgO4 (lgO4.toList.drop 2) {lgI bg a n c s i []with tmps:=((lgI bg a n c s i []).tmps.set 11 (.val (.pointer (some ad)))).set 12 (.val (.agg (List.toArray [.int .i64 k,.string d])))} [] (C0p [4096,lN1] (E0d 35 [1,2,3,5,7,8,9]))=some (true,lgF bg a n c s i k d):=by kernel_rfl
theorem G5h:D1q (seqR lgB1) (lgF bg a n c s i k d) [4096] [1,2,3,7,8,9]=bif decide (wI (s+(d.size:Int))>3000) then some (.ret,{lgI bg a n c (wI (s+(d.size:Int))) i []with lo:=lN2}) else some (.normal,{lgI bg a n c (wI (s+(d.size:Int))) i []with lo:=lN2}):=by kernel_rfl
theorem G5j:D1q (seqR (seqR (seqR lgB))) (lgI bg a n c s i []) [4096] [1,2,3,7,8,9]=some (.normal,lgI bg a n c s (wI (i+1)) []):=by kernel_rfl
theorem G5k:D1q (lgR 3) (lgI bg a n c s i []) [] [2]=bif decide ((n:Int)≤30) then bif decide (bg≥0) then some (.ret,lgV (decide (bg≤157766400000)) lN1) else some (.ret,lgV false lN1) else some (.ret,lgV false lN1):=by kernel_rfl
end
def eqK:List Int→List Int→Bool
 | a :: r,b :: t=>a==b&&eqK r t
 | _,_=>true
theorem J1j:∀l:List Int,eqK l l=true
 | []=>rfl
 | a :: r=>by simp[eqK,J1j r]
def r6L(r:R6):List Int:=[r.a,r.b,r.c,r.d,r.e,r.f]
def gsK(a b:Gs):Bool:=eqK [a.q.w,a.q.x,a.q.y,a.q.z] [b.q.w,b.q.x,b.q.y,b.q.z]&&(eqK [a.bias.x,a.bias.y,a.bias.z] [b.bias.x,b.bias.y,b.bias.z] &&
 ((eqK (r6L a.p.a) (r6L b.p.a)&&(eqK (r6L a.p.b) (r6L b.p.b)&&(eqK (r6L a.p.c) (r6L b.p.c)&&(eqK (r6L a.p.d) (r6L b.p.d)&&(eqK (r6L a.p.e) (r6L b.p.e)&&(eqK (r6L a.p.f) (r6L b.p.f)&&true))))))&&true))
def plK(a b:Pl):Bool:=eqK [a.mode,a.calm,a.good,a.miss,a.lost,a.faults] [b.mode,b.calm,b.good,b.miss,b.lost,b.faults]
def orK(a b:Orb):Bool:=eqK [a.a,a.e,a.i,a.node,a.peri,a.m,a.tk] [b.a,b.e,b.i,b.node,b.peri,b.m,b.tk]
def drK(a b:Dr):Bool:=a.on==b.on&&(a.tick==b.tick&&(eqK [a.last.x,a.last.y,a.last.z] [b.last.x,b.last.y,b.last.z]&&(eqK [a.rate.x,a.rate.y,a.rate.z] [b.rate.x,b.rate.y,b.rate.z]&&true)))
def crfK(a b:Crf):Bool:=a.on==b.on&&(a.tk==b.tk&&(a.left==b.left&&(plK a.plan b.plan&&(a.placed==b.placed&&(orK a.orb b.orb&&(drK a.drift b.drift&&(gsK a.guess b.guess&&(a.ack==b.ack&&(a.err==b.err&&(a.rej==b.rej&&true))))))))))
theorem E3c(s:ByteArray):(s==s)=true:=by
 unfold BEq.beq
 show (s.data==s.data)=true
 exact beq_self_eq_true s.data
theorem Z0t(a:Crf):crfK a a=true:=by simp[crfK,plK,orK,drK,gsK,J1j,E3c]
section
variable (aw:Bool) (pre:StpA→Bool) (g:StpA→Two Crf ByteArray) (c:Crf) (tk i:Int) (b:ByteArray) (x y:Two Crf ByteArray)
end
noncomputable def ecR:Nat→Code
 | 0=>Tryz.f15.body.getD .skip
 | k+1=>seqR (ecR k)
noncomputable def ecL(k:Nat):Code:=seqL (ecR k)
noncomputable def ecB:Code:=inB (inB (seqR (ecL 3)))
noncomputable def ecB1:Code:=inB (seqL (seqR (seqR ecB)))
noncomputable def ecT:Nat→Code
 | 0=>ecB1
 | k+1=>seqR (ecT k)
noncomputable def ecO5:Array Oper:=regO (seqL ecB1)
theorem Z4r:Tryz.f15.body=some (.seq (ecL 0) (.seq (ecL 1) (.seq (ecL 2) (.seq (.seq (seqL (ecL 3)) (.block 0 (.loop (.seq (seqL ecB) (.seq (seqL (seqR ecB)) (.seq (.block 1 (.seq (.region 5 ecO5 false) (.seq (seqL (ecT 1)) (.seq (seqL (ecT 2)) (.seq (seqL (ecT 3)) (.seq (seqL (ecT 4)) (.seq (seqL (ecT 5)) (ecT 6)))))))) (seqR (seqR (seqR ecB))))))))) (ecR 4))))):=by kernel_rfl
theorem B3w:Tryz.prog.funcs[15]?=some Tryz.f15:=by kernel_rfl
theorem A5v:Tryz.f15.ntmps=60:=by kernel_rfl
theorem Z4m:B0a ecO5 0=some (.indexAddr 22 (.tmp 16) (.tmp 18),some 20,true):=by kernel_rfl
theorem Z4n:B0a ecO5 1=some (.load 70 (.tmp 20),some 21,true):=by kernel_rfl
theorem Z4p:List.range ecO5.size=0 :: 1 :: ((List.range (ecO5.toList.drop 2).length).map (2+·)++[]):=by kernel_rfl
def eN1:Nat:=4096+1*2^180
def eN2:Nat:=4096+2*2^180
def eN3:Nat:=4096+3*2^180
def eN4:Nat:=4096+4*2^180
def eN5:Nat:=4096+5*2^180
abbrev R0y:=Crf×Crf×Tl×ByteArray×Unit
def H3h(p:R0y):Bool:=decide (p.1.left.size+p.2.2.2.1.size≤1099511627776)
def T1k(pre:StpA→Bool)(g:StpA→Two Crf ByteArray)(tp:ByteArray×Unit→Bool)(td:ByteArray×Unit→Two Tl Bool)(hd:R0y→Bool):Gam:=[(25,S0w pre g),(44,S0c tp td),(40,S0w H3h hd)]
def C2b(t:Tl):Con:=.row 48 ([.int .i64 t.tk,.int .i64 t.mode,.int .i64 t.faults,.int .i64 t.ack,.int .i64 t.err,.int .i64 t.rej,.int .i64 t.q.w,.int .i64 t.q.x,.int .i64 t.q.y,.int .i64 t.q.z,.int .i64 t.d.x,.int .i64 t.d.y,.int .i64 t.d.z].map AV.val)
def ecS(bg:Int)(a:Option Addr)(n c:Nat)(cr:Crf)(tk i:Int)(lo:Nat)(tm:List (Nat×AV))(H:Hp):St:=gSt 60 ([(1,.func 40 [] []),(2,.ptr 4096 0),(4,.val (.bool false)),(5,.ptr eN1 0),(6,.val (.int .i64 tk)),(16,.val (.slice a n c)),(17,.val (.int .i64 n)),(18,.val (.int .i64 i))]++tm) ([(4096,D1v bg a n c),(eN1,.row 44 (C0x cr))]++H) lo
def ecF(bg:Int)(a:Option Addr)(n c:Nat)(cr:Crf)(tk i k:Int)(d:ByteArray):St:=ecS bg a n c cr tk i eN3 [(8,.ptr eN2 0)] [(eN2,.row 70 [.val (.int .i64 k),.val (.string d)])]
def ecG(bg:Int)(a:Option Addr)(n c:Nat)(cr:Crf)(tk i k:Int)(d:ByteArray)(nx:Crf)(s:ByteArray):St:=ecS bg a n c cr tk i eN4 [(8,.ptr eN2 0),(9,.ptr eN3 0),(10,.val (.string s))] [(eN2,.row 70 [.val (.int .i64 k),.val (.string d)]),(eN3,.row 44 (C0x nx))]
def ecH(bg:Int)(a:Option Addr)(n c:Nat)(cr:Crf)(tk i k:Int)(d:ByteArray)(nx:Crf)(t:Tl)(ok:Bool):St:=ecS bg a n c cr tk i eN5 [(8,.ptr eN2 0),(9,.ptr eN3 0),(11,.ptr eN4 0),(12,.val (.bool ok))] [(eN2,.row 70 [.val (.int .i64 k),.val (.string d)]),(eN3,.row 44 (C0x nx)),(eN4,C2b t)]
def ecV(b:Bool)(lo:Nat):St:=gSt 60 [(4,.val (.bool b))] [] lo
abbrev EcK:List Nat:=[4096,eN1]
abbrev EcT:List Nat:=[1,2,4,5,6,16,17,18]
section
variable (pre:StpA→Bool) (g:StpA→Two Crf ByteArray) (tp:ByteArray×Unit→Bool) (td:ByteArray×Unit→Two Tl Bool) (hd:R0y→Bool)
variable (bg tk i k:Int) (a:Option Addr) (ad:Addr) (n c:Nat) (cr nx:Crf) (t:Bool) (tl:Tl) (d s:ByteArray)
noncomputable abbrev R0g(pre:StpA→Bool)(g:StpA→Two Crf ByteArray)(tp:ByteArray×Unit→Bool)(td:ByteArray×Unit→Two Tl Bool)(hd:R0y→Bool)(c:Code)(s:St)(ks ts:List Nat):Option (Ex×St):=gRun Tryz.prog {gam:=T1k pre g tp td hd} 60 c s ks ts
def ecA(bg:Int)(a:Option Addr)(n c:Nat):St:=B0t 60 [.val (.agg #[.int .i64 bg,.slice a n c]),.func 40 [] []] []
theorem Z4t:R0g pre g tp td hd (ecL 0) (ecA bg a n c) [4096] [1,2,4]=some (.normal,gSt 60 [(1,.func 40 [] []),(2,.ptr 4096 0),(4,.val (.bool false))] [(4096,D1v bg a n c)] eN1):=by kernel_rfl
theorem Z4u:R0g pre g tp td hd (ecL 1) (gSt 60 [(1,.func 40 [] []),(2,.ptr 4096 0),(4,.val (.bool false))] [(4096,D1v bg a n c)] eN1) EcK [1,2,4,5]=some (.normal,gSt 60 [(1,.func 40 [] []),(2,.ptr 4096 0),(4,.val (.bool false)),(5,.ptr eN1 0)] [(4096,D1v bg a n c),(eN1,.row 44 (C0x crf0))] eN2):=by kernel_rfl
theorem Z4v:R0g pre g tp td hd (ecL 2) (gSt 60 [(1,.func 40 [] []),(2,.ptr 4096 0),(4,.val (.bool false)),(5,.ptr eN1 0)] [(4096,D1v bg a n c),(eN1,.row 44 (C0x crf0))] eN2) EcK [1,2,4,5,6]=some (.normal,gSt 60 [(1,.func 40 [] []),(2,.ptr 4096 0),(4,.val (.bool false)),(5,.ptr eN1 0),(6,.val (.int .i64 bg))] [(4096,D1v bg a n c),(eN1,.row 44 (C0x crf0))] eN2):=by kernel_rfl
theorem Z4w:R0g pre g tp td hd (seqL (ecL 3)) (gSt 60 [(1,.func 40 [] []),(2,.ptr 4096 0),(4,.val (.bool false)),(5,.ptr eN1 0),(6,.val (.int .i64 bg))] [(4096,D1v bg a n c),(eN1,.row 44 (C0x crf0))] eN2) EcK EcT=some (.normal,ecS bg a n c crf0 bg 0 eN2 [] []):=by kernel_rfl
theorem Z3b:R0g pre g tp td hd (seqL ecB) (ecS bg a n c cr tk i eN2 [] []) EcK (19 :: EcT)=some (.normal,ecS bg a n c cr tk i eN2 [(19,.val (.bool (decide (i<n))))] []):=by kernel_rfl
theorem Z3e:R0g pre g tp td hd (seqL (seqR ecB)) (ecS bg a n c cr tk i eN2 [(19,.val (.bool t))] []) EcK EcT=bif t then some (.normal,ecS bg a n c cr tk i eN2 [] []) else some (.exit 0,ecS bg a n c cr tk i eN2 [] []):=by kernel_rfl
theorem Z4x:B0j Tryz.prog (B0v Tryz.prog {gam:=T1k pre g tp td hd} 4 (Bool×St)) (B0p (T1k pre g tp td hd)) 60 ecO5 (ecO5.toList.drop 2) {ecS bg a n c cr tk i eN2 [] []with tmps:=((ecS bg a n c cr tk i eN2 [] []).tmps.set 20 (.val (.pointer (some ad)))).set 21 (.val (.agg (List.toArray [.int .i64 k,.string d])))} [] (C0p [4096,eN1,eN2] (E0d 60 (8 :: EcT)))=some (true,ecF bg a n c cr tk i k d):=by kernel_rfl
end
def W3k(k:Int):Int:=if 1000000<(if -1000000>k then -1000000 else k) then 1000000 else (if -1000000>k then -1000000 else k)
def A0m(tk k:Int):Int:=IntKind.i64.wrap (tk+W3k k)
def eN6:Nat:=4096+6*2^180
abbrev EcF:List Nat:=[4096,eN1,eN2]
section
variable (pre:StpA→Bool) (g:StpA→Two Crf ByteArray) (tp:ByteArray×Unit→Bool) (td:ByteArray×Unit→Two Tl Bool) (hd:R0y→Bool)
variable (bg tk i k:Int) (a:Option Addr) (n c:Nat) (cr nx:Crf) (t:Bool) (tl:Tl) (d s:ByteArray)
def Z4q(bg:Int)(a:Option Addr)(n c:Nat)(cr:Crf)(tk i:Int)(lo:Nat):Option (Ex×St):=some (.ret,ecS bg a n c cr tk i lo [] [])
theorem Z4y:R0g pre g tp td hd (seqL (ecT 1)) (ecF bg a n c cr tk i k d) EcF (8 :: EcT)=some (.normal,ecF bg a n c cr (A0m tk k) i k d):=by kernel_rfl
theorem Z4z:R0g pre g tp td hd (seqL (ecT 2)) (ecF bg a n c cr tk i k d) [4096,eN1,eN2,eN3] (8 :: 9 :: 10 :: EcT)=bif pre (cr,tk,d,()) then some (.normal,ecG bg a n c cr tk i k d (g (cr,tk,d,())).a (g (cr,tk,d,())).b) else none:=by kernel_rfl
theorem Z3c:R0g pre g tp td hd (seqL (ecT 3)) (ecG bg a n c cr tk i k d nx s) [4096,eN1] EcT=bif s.toList==(⟨#[]⟩:ByteArray).toList then bif !crfK nx cr then Z4q bg a n c cr tk i eN4 else some (.exit 1,ecS bg a n c cr tk i eN4 [] []) else some (.normal,ecS bg a n c cr tk i eN4 [] []):=by kernel_rfl
theorem Z3d:R0g pre g tp td hd (seqL (ecT 3)) (ecG bg a n c cr tk i k d nx s) [4096,eN1,eN2,eN3] (8 :: 9 :: 10 :: EcT)=bif s.toList==(⟨#[]⟩:ByteArray).toList then bif !crfK nx cr then some (.ret,ecG bg a n c cr tk i k d nx s) else some (.exit 1,ecG bg a n c cr tk i k d nx s) else some (.normal,ecG bg a n c cr tk i k d nx s):=by kernel_rfl
theorem A5a:R0g pre g tp td hd (seqL (ecT 4)) (ecG bg a n c cr tk i k d nx s) [4096,eN1,eN2,eN3,eN4] (8 :: 9 :: 11 :: 12 :: EcT)=bif tp (s,()) then some (.normal,ecH bg a n c cr tk i k d nx (td (s,())).a (td (s,())).b) else none:=by kernel_rfl
theorem Y3x:R0g pre g tp td hd (seqL (ecT 5)) (ecH bg a n c cr tk i k d nx tl t) [4096,eN1,eN2,eN3] (8 :: 9 :: EcT)=bif !t then some (.ret,ecS bg a n c cr tk i eN6 [(8,.ptr eN2 0),(9,.ptr eN3 0)] [(eN2,.row 70 [.val (.int .i64 k),.val (.string d)]),(eN3,.row 44 (C0x nx))]) else bif H3h (cr,nx,tl,d,()) then (bif !hd (cr,nx,tl,d,()) then some (.ret,ecS bg a n c cr tk i eN6 [(8,.ptr eN2 0),(9,.ptr eN3 0)] [(eN2,.row 70 [.val (.int .i64 k),.val (.string d)]),(eN3,.row 44 (C0x nx))]) else some (.normal,ecS bg a n c cr tk i eN6 [(8,.ptr eN2 0),(9,.ptr eN3 0)] [(eN2,.row 70 [.val (.int .i64 k),.val (.string d)]),(eN3,.row 44 (C0x nx))])) else none:=by kernel_rfl
theorem Y3y:R0g pre g tp td hd (ecT 6) (ecS bg a n c cr tk i eN6 [(8,.ptr eN2 0),(9,.ptr eN3 0)] [(eN2,.row 70 [.val (.int .i64 k),.val (.string d)]),(eN3,.row 44 (C0x nx))]) EcK EcT=some (.normal,ecS bg a n c nx tk i eN6 [] []):=by kernel_rfl
theorem Y3z:R0g pre g tp td hd (seqR (seqR (seqR ecB))) (ecS bg a n c cr tk i eN2 [] []) EcK EcT=some (.normal,ecS bg a n c cr tk (IntKind.i64.wrap (i+1)) eN2 [] []):=by kernel_rfl
theorem Z3a:R0g pre g tp td hd (ecR 4) (ecS bg a n c cr tk i eN2 [] []) [] [4]=some (.ret,ecV true eN2):=by kernel_rfl
theorem Z3g(b:Bool)(lo:Nat):resA Tryz.prog (ecV b lo) Tryz.f15.results.toList=some [.val (.bool b)]:=by kernel_rfl
theorem X1k(lo:Nat):A0p eN2 (ecS bg a n c cr tk i lo [] [])=true:=by kernel_rfl
theorem E2k:(ecS bg a n c cr tk i eN2 [] []).tmps.length=60:=by kernel_rfl
end
abbrev U1k:Nat→Prop:=fun _=>False
abbrev N0x:Nat→Option Nat:=fun _=>none
theorem U0m{P:Program}{N:Nat}{f:FuncId}{fn:Func}{c:Code}(hfn:P.funcs[f]?=some fn)(hbody:fn.body=some c)(hN:fn.ntmps=N){args:List AV}{vals:List Value}(hle:args.length≤N)(w:World)(hv:Rels N0x args vals){X:Value→Prop}
  (H:∀(a:Act) (Q:Exit→Act→World→Prop),A0j N w U1k N0x 4096 (4096+2^200) (B0t N args []) a w→(∀(e:Ex) a' w' s' l v,(e=.normal∨e=.ret)→A0j N w U1k N0x 4096 (4096+2^200) s' a' w'→resA P s' fn.results.toList=some l→pack l=.val v→X v→Q e.to a' w')→c.wp P Q a w) :
  Calls P f (List.toArray vals) w fun e w'=>∃v,e=.returned v∧RowKit.Below w.heap.size w w'∧X v:=by
 subst hN
 have hlen:=Rels.length hv
 refine calls_of_wp hfn hbody ?_
 have hargsR:Rels N0x (args++List.replicate (fn.ntmps-args.length) (.val undef)) (vals++List.replicate (fn.ntmps-args.length) undef):=Rels.append hv (Rels.undefs _ _)
 refine H _ _ ⟨N0x,(B0t fn.ntmps args []).u,⟨rfl,by simp;omega,fun t v hv=>?_,fun b e cs hb=>?_,fun b o hb=>?_,(fun _ _ _ h=>by cases h),(fun _ _ h=>by cases h),(fun _ _ _ _ _ h=>by cases h),(fun _ _ _ _ h=>by cases h),rfl,rfl,rfl,Nat.le_refl _,fun _ _ _=>rfl⟩,Sub.refl _,fun _ _ _=>rfl,Le.refl _,fun _ h _=>h,Nat.le_refl _,Nat.le_refl _⟩ ?_
 ·simp only[St.u,stU,B0t,Option.map_eq_some_iff,Con.av.injEq]at hv
  obtain ⟨x,hx,rfl⟩:=hv
  obtain ⟨y,hy,hrel⟩:=Rels.get hargsR hx
  refine ⟨y,?_,hrel⟩
  rw[← hy]
  have:(List.toArray vals++Array.replicate (fn.ntmps-(List.toArray vals).size) undef)=List.toArray (vals++List.replicate (fn.ntmps-args.length) undef):=by
   apply Array.toList_inj.1;simp[hlen]
  simp only[this,List.getElem?_toArray]
 ·simp[St.u,stU,B0t,numH,hget]at hb
 ·simp[St.u,stU,B0t,numH,hget]at hb
 ·intro e a' w' s' l v he hst hr hp hX
  obtain ⟨σ,u,hf,hs,_⟩:=hst
  obtain ⟨x,hx,hrel⟩:=N0k (P:=P) (fn:=fn) hf hs hr
  rw[hp]at hrel
  simp only[Rel]at hrel
  subst hrel
  have hb:RowKit.Below w.heap.size w w':=⟨hf.os,hf.tape,hf.output,hf.grown,fun k hk=>hf.frame k hk fun h=>h⟩
  rcases he with rfl | rfl
  ·exact bodyPost_end hx hf.defers ⟨_,rfl,hb,hX⟩
  ·exact bodyPost_ret hx hf.defers ⟨_,rfl,hb,hX⟩
def M0q(s:Int):List Rec→Bool
 | []=>true
 | r :: t=>bif decide (wI (s+(r.2.size:Int))>3000) then false else M0q (wI (s+(r.2.size:Int))) t
def R0p(bg:Int)(rs:List Rec):Bool:=M0q 0 rs&&(decide ((rs.length:Int)≤30)&&(decide (bg≥0)&&decide (bg≤157766400000)))
theorem W2j(bg:Int)(a:Option Addr)(n c:Nat)(s i:Int)(lo:Nat):A0p lN1 {lgI bg a n c s i []with lo:=lo}=true:=by kernel_rfl
theorem H2u(bg:Int)(a:Option Addr)(n c:Nat)(s i:Int):(lgI bg a n c s i []).tmps.length=35:=by kernel_rfl
theorem J3a(bg:Int)(a:Option Addr)(n c:Nat)(s i:Int)(lo:Nat):resA Tryz.prog {lgI bg a n c s i []with lo:=lo} Tryz.f14.results.toList=some [.val (.bool false)]:=by kernel_rfl
theorem J3b(b:Bool)(lo:Nat):resA Tryz.prog (lgV b lo) Tryz.f14.results.toList=some [.val (.bool b)]:=by kernel_rfl
abbrev T2y(w:World)(s:St)(a:Act)(w':World):Prop:=A0j 35 w U1k N0x 4096 (4096+2^200) s a w'
theorem lg_g{c:Code}{s s1:St}{e:Ex}{ks ts:List Nat}(h:D1q c s ks ts=some (e,s1)):A0b Tryz.prog 35 c s e s1:=A0a (E:={gam:=[]}) GamOk.nil h
theorem A0j.let_go{N:Nat}{w0:World}{own:Nat→Prop}{lo0 hi0 lo:Nat}{s:St}{a:Act}{w:World}(h:A0j N w0 own N0x lo0 hi0 s a w)(hok:A0p lo s=true)(hlo:lo0≤lo)(hhi:s.hi=hi0):A0j N w0 own N0x lo0 hi0 {s with lo:=lo} a w:=by
 obtain ⟨σ,u,hf,hs,hn,hl,ho,h1,h2⟩:=h
 simp only[A0p,Bool.and_eq_true,List.all_eq_true,Nat.blt_eq]at hok
 obtain ⟨hct,hch⟩:=hok
 have hblk:∀b c,s.u (.blk b)=some c→C0w lo hi0 b:=fun b c hb=>by
  have hm:=H0c (H:=s.heap) hb
  have :=(hch _ hm).1
  unfold C0w
  omega
 have hcl:∀l c,s.u l=some c→M1h lo hi0 c:=fun l c hl=>by
  cases l with
  | tmp t =>
   simp only[St.u,stU,Option.map_eq_some_iff]at hl
   obtain ⟨x,hx,rfl⟩:=hl
   intro b hb
   have :=hct x (List.mem_of_getElem? hx) b hb
   unfold C0w
   omega
  | blk b =>
   have hm:=H0c (H:=s.heap) hl
   have :=(hch _ hm).2
   cases c with
   | av x=>intro d hd;have :=this d hd;unfold C0w;omega
   | row e cs=>intro d hd;have :=this d hd;unfold C0w;omega
   | obj o=>trivial
 have hw:Fits N w0 own σ s.u a w:=hf.sub hs
 refine ⟨cutσ σ lo hi0,s.u,?_,Sub.refl _,fun b hb1 hb2=>?_,fun b r hb=>(by cases hb),fun b hb1 hb2=>?_,hlo,h2⟩
 ·refine {hw with tmp:=fun t v hv=>?_,row:=fun b e cs hb=>?_,obj:=fun b o hb=>?_,inj:=fun b b' r h1 h2=>hw.inj b b' r (A0x h1) (A0x h2),bound:=fun b r hb=>hw.bound b r (A0x hb),ownsR:=fun b e cs r hb hr=>hw.ownsR b e cs r hb (A0x hr),ownsO:=fun b o r hb hr=>hw.ownsO b o r hb (A0x hr)}
  ·obtain ⟨x,h3,h4⟩:=hw.tmp t v hv
   exact ⟨x,h3,Rel.cut v x (hcl _ _ hv) h4⟩
  ·obtain ⟨r,vs,h3,h4,h5⟩:=hw.row b e cs hb
   exact ⟨r,vs,by rw[B0k (hblk b _ hb)];exact h3,h4,Rels.cut cs vs (hcl _ _ hb) h5⟩
  ·obtain ⟨r,o',h3,h4,h5⟩:=hw.obj b o hb
   exact ⟨r,o',by rw[B0k (hblk b _ hb)];exact h3,h4,h5⟩
 ·have hb2:b<hi0:=by rw[← hhi];exact hb2
  unfold cutσ
  rw[if_pos ⟨hb1,hb2⟩]
 ·have :=ho b hb1 hb2
  unfold cutσ
  split
  ·rfl
  ·exact this
theorem adds(a:Addr)(i j:Nat):(a.add i).add j=a.add (i+j):=by
 unfold Addr.add
 by_cases hi:i=0<;>by_cases hj:j=0<;>simp[hi,hj,Nat.add_assoc]
theorem H2v{w:World}{bg:Int}{a:Option Addr}{c:Nat}{rs:List Rec}(hat:RecAt w a rs.length rs){Q:Exit→Act→World→Prop} :
  ∀(m i:Nat) (s:Int) (act:Act) (w':World),i+m=rs.length→(∀a' w2 s',M0q s (rs.drop i)=true→T2y w (lgI bg a rs.length c s' rs.length []) a' w2→Q (.exit 0) a' w2) →
   (∀a' w2 s' i' lo,M0q s (rs.drop i)=false→T2y w {lgI bg a rs.length c s' i' []with lo:=lo} a' w2→Q .ret a' w2)→T2y w (lgI bg a rs.length c s i []) act w' →
   Code.rounds Tryz.prog (.seq (seqL lgB) (.seq (seqL (seqR lgB)) (.seq (.block 1 (.seq (.region 4 lgO4 false) (seqR lgB1))) (seqR (seqR (seqR lgB)))))) Q (m+1) act w':=by
 intro m
 induction m with
 | zero =>
  intro i s act w' hi hQ _ hst
  have hi':i=rs.length:=by omega
  subst hi'
  rw[rounds_succ]
  refine wp_seq (lg_g (C4k bg s rs.length a rs.length c) _ _ _ _ _ act w' hst _ fun a1 w1 h1=>?_)
  rw[decide_eq_false (by omega)]at h1
  refine wp_seq (lg_g (C4m bg s rs.length a rs.length c false) _ _ _ _ _ a1 w1 h1 _ fun a2 w2 h2=>?_)
  exact hQ a2 w2 s (by rw[List.drop_of_length_le (Nat.le_refl _)];rfl) h2
 | succ m ih =>
  intro i s act w' hi hQ hR hst
  rw[rounds_succ]
  have hlt:i<rs.length:=by omega
  refine wp_seq (lg_g (C4k bg s i a rs.length c) _ _ _ _ _ act w' hst _ fun a1 w1 h1=>?_)
  rw[decide_eq_true (by omega)]at h1
  refine wp_seq (lg_g (C4m bg s i a rs.length c true) _ _ _ _ _ a1 w1 h1 _ fun a2 w2 h2=>?_)
  refine wp_seq (wp_block (wp_seq (wp_region ?_)))
  rw[G5a]
  have hat2:RecAt w2 a rs.length rs:=hat.later (by obtain ⟨_,_,hf,_⟩:=h2;exact hf.grown) fun k hk=>h2.far hk fun h=>h
  obtain ⟨ad,rfl,_,hc0,hc1⟩:=hat2.lies i hlt
  obtain ⟨ti,hti,hs⟩:=N1z
  refine K0q E5y (by omega) (H2u ..) v22s hti h2 (b:=ad) (len:=rs.length) (cap:=c) (i:=i) (ik:=.i64) (h2.eval (t:=7) rfl) (h2.eval (t:=9) rfl) hlt _ fun a3 h3=>?_
  have ead:∀k,(ad.add (i*ti.size)).add k=ad.add (i*2+k):=by
   intro k
   rw[hs]
   exact adds ad (i*2) k
  refine N0g E5z (by omega) (by rw[List.length_set];exact H2u ..) h3 (b:=ad.add (i*ti.size)) (h3.eval (t:=11) (by rw[List.getElem?_set_self (by rw[H2u];omega)])) (L1m (k:=rs[i].1) (d:=rs[i].2) (by rw[ead];exact hc0) (by rw[ead];exact hc1)) _ fun a4 h4=>?_
  refine D0z (B0b (E:={gam:=[]}) GamOk.nil 4 _) [4096,lN1] _ (G5g bg s i rs[i].1 (some ad) (ad.add (i*ti.size)) rs.length c rs[i].2) (fun _ _ hj=>D0k hj) h4 [] fun a5 w5 h5=>?_
  change Code.wp Tryz.prog (seqR lgB1) _ a5 w5
  have hd:rs.drop i=rs[i] :: rs.drop (i+1):=List.drop_eq_getElem_cons hlt
  have hq:=G5h bg s i rs[i].1 (some ad) rs.length c rs[i].2
  rw[hd]at hQ hR
  cases hbig:decide (wI (s+(rs[i].2.size:Int))>3000) with
  | true =>
   rw[hbig,cond_true]at hq
   refine lg_g hq _ _ _ _ _ a5 w5 h5 _ fun a6 w6 h6=>?_
   exact hR a6 w6 _ _ _ (by unfold M0q;rw[hbig];rfl) h6
  | false =>
   rw[hbig,cond_false]at hq
   refine lg_g hq _ _ _ _ _ a5 w5 h5 _ fun a6 w6 h6=>?_
   simp only[Ex.to,Exit.inBlock]
   have h7:=h6.let_go (lo:=lN1) (W2j ..) (by show 4096≤lN1;decide +kernel) rfl
   have h8:T2y w (lgI bg (some ad) rs.length c (wI (s+(rs[i].2.size:Int))) i []) a6 w6:=h7
   refine lg_g (G5j bg _ i (some ad) rs.length c) _ _ _ _ _ a6 w6 h8 _ fun a7 w7 h9=>?_
   have hw:wI ((i:Int)+1)=((i+1:Nat):Int):=by have :=hat.small;unfold wI;rw[C0k];omega
   rw[hw]at h9
   have hsum:M0q s (rs[i] :: rs.drop (i+1))=M0q (wI (s+(rs[i].2.size:Int))) (rs.drop (i+1)):=by
    show (bif decide (wI (s+(rs[i].2.size:Int))>3000) then false else M0q (wI (s+(rs[i].2.size:Int))) (rs.drop (i+1)))=_
    rw[hbig]
    rfl
   rw[hsum]at hQ hR
   exact ih (i+1) _ a7 w7 (by omega) hQ hR h9
theorem U1d(bg:Int)(a:Option Addr)(c:Nat)(rs:List Rec)(w:World)(hat:RecAt w a rs.length rs) :
  Calls Tryz.prog 14 #[.agg #[.int .i64 bg,.slice a rs.length c]] w fun e w'=>∃v,e=.returned v∧RowKit.Below w.heap.size w w'∧v=.bool (R0p bg rs):=by
 refine U0m (vals:=[.agg #[.int .i64 bg,.slice a rs.length c]]) (args:=[.val (.agg #[.int .i64 bg,.slice a rs.length c])]) B3v G5b A5u (by show 1≤35;omega) w (by simp only[Rels,Rel];exact ⟨_,_,rfl,rfl,rfl⟩) fun act Q hst hQ=>?_
 refine wp_seq (lg_g (G5c bg a rs.length c) _ _ _ _ _ act w hst _ fun a1 w1 h1=>?_)
 refine wp_seq (lg_g (G5d bg a rs.length c) _ _ _ _ _ a1 w1 h1 _ fun a2 w2 h2=>?_)
 refine wp_seq (wp_seq (lg_g (G5e bg a rs.length c) _ _ _ _ _ a2 w2 h2 _ fun a3 w3 h3=>?_))
 refine wp_block (wp_loop_rounds (rs.length+1) (H2v hat rs.length 0 0 a3 w3 (by omega) (fun a4 w4 s' hs h4=>?_) (fun a4 w4 s' i' lo hs h4=>?_) h3))
 ·simp only[Exit.inBlock,if_true]
  rw[List.drop_zero]at hs
  have hq:=G5k bg s' rs.length a rs.length c
  have e:R0p bg rs=(decide ((rs.length:Int)≤30)&&(decide (bg≥0)&&decide (bg≤157766400000))):=by unfold R0p;rw[hs];rfl
  have go:D1q (lgR 3) (lgI bg a rs.length c s' rs.length []) [] [2]=some (.ret,lgV (R0p bg rs) lN1):=by
   rw[hq,e]
   cases decide ((rs.length:Int)≤30)
   ·rfl
   ·cases decide (bg≥0)<;>rfl
  refine lg_g go _ _ _ _ _ a4 w4 h4 _ fun a5 w5 h5=>?_
  exact hQ .ret a5 w5 _ _ _ (.inr rfl) h5 (J3b ..) rfl rfl
 ·rw[List.drop_zero]at hs
  have e:R0p bg rs=false:=by unfold R0p;rw[hs];rfl
  exact hQ .ret a4 w4 _ _ _ (.inr rfl) h4 (J3a ..) rfl (by rw[e])
def P0w(g:StpA→Two Crf ByteArray)(td:ByteArray×Unit→Two Tl Bool)(hd:R0y→Bool)(cr:Crf)(tk:Int):List Rec→Bool
 | []=>true
 | r :: t =>
  bif (g (cr,A0m tk r.1,r.2,())).b.toList==(⟨#[]⟩:ByteArray).toList then bif !crfK (g (cr,A0m tk r.1,r.2,())).a cr then false else P0w g td hd cr (A0m tk r.1) t
  else bif !(td ((g (cr,A0m tk r.1,r.2,())).b,())).b then false else bif !hd (cr,(g (cr,A0m tk r.1,r.2,())).a,(td ((g (cr,A0m tk r.1,r.2,())).b,())).a,r.2,()) then false else P0w g td hd (g (cr,A0m tk r.1,r.2,())).a (A0m tk r.1) t
def N0t(pre:StpA→Bool)(g:StpA→Two Crf ByteArray)(tp:ByteArray×Unit→Bool)(cr:Crf)(tk:Int):List Rec→Prop
 | []=>True
 | r :: t=>pre (cr,A0m tk r.1,r.2,())=true ∧
  (((g (cr,A0m tk r.1,r.2,())).b.toList==(⟨#[]⟩:ByteArray).toList)=true→N0t pre g tp cr (A0m tk r.1) t) ∧
  (((g (cr,A0m tk r.1,r.2,())).b.toList==(⟨#[]⟩:ByteArray).toList)=false→tp ((g (cr,A0m tk r.1,r.2,())).b,())=true∧cr.left.size+r.2.size≤1099511627776∧N0t pre g tp (g (cr,A0m tk r.1,r.2,())).a (A0m tk r.1) t)
theorem G3h(bg:Int)(a:Option Addr)(n c:Nat)(cr:Crf)(tk i:Int)(lo:Nat)(H:Hp):resA Tryz.prog (ecS bg a n c cr tk i lo [] H) Tryz.f15.results.toList=some [.val (.bool false)]:=by kernel_rfl
theorem E2m(bg:Int)(a:Option Addr)(n c:Nat)(cr:Crf)(tk i:Int)(lo:Nat)(x y:AV)(H:Hp):resA Tryz.prog (ecS bg a n c cr tk i lo [(8,x),(9,y)] H) Tryz.f15.results.toList=some [.val (.bool false)]:=by kernel_rfl
abbrev Z1n(w:World)(s:St)(a:Act)(w':World):Prop:=A0j 60 w U1k N0x 4096 (4096+2^200) s a w'
section
variable {pre:StpA→Bool} {g:StpA→Two Crf ByteArray} {tp:ByteArray×Unit→Bool} {td:ByteArray×Unit→Two Tl Bool} {hd:R0y→Bool} (hG:GamOk Tryz.prog (T1k pre g tp td hd))
include hG
theorem ec_g{c:Code}{s s1:St}{e:Ex}{ks ts:List Nat}(h:R0g pre g tp td hd c s ks ts=some (e,s1)):A0b Tryz.prog 60 c s e s1:=A0a (E:={gam:=T1k pre g tp td hd}) hG h
theorem G3g{w:World}{bg tk:Int}{a:Option Addr}{n c i:Nat}{cr:Crf}{r:Rec}{t:List Rec}(hok:N0t pre g tp cr tk (r :: t)){Q:Exit→Act→World→Prop}{act:Act}{w':World}(hst:Z1n w (ecF bg a n c cr tk i r.1 r.2) act w')
  (hN:∀a' w2 cr' e,(e=Ex.normal∨e=.exit 1)→N0t pre g tp cr' (A0m tk r.1) t→P0w g td hd cr tk (r :: t)=P0w g td hd cr' (A0m tk r.1) t→Z1n w (ecS bg a n c cr' (A0m tk r.1) i eN2 [] []) a' w2→Q e.to a' w2)
  (hR:∀a' w2 s',P0w g td hd cr tk (r :: t)=false→Z1n w s' a' w2→resA Tryz.prog s' Tryz.f15.results.toList=some [.val (.bool false)]→Q .ret a' w2) :
  (Code.seq (seqL (ecT 1)) (.seq (seqL (ecT 2)) (.seq (seqL (ecT 3)) (.seq (seqL (ecT 4)) (.seq (seqL (ecT 5)) (ecT 6)))))).wp Tryz.prog Q act w':=by
 obtain ⟨hp,he1,he2⟩:=hok
 refine wp_seq (ec_g hG (Z4y pre g tp td hd bg tk i r.1 a n c cr r.2) _ _ _ _ _ act w' hst _ fun a1 w1 h1=>?_)
 have q7:=Z4z pre g tp td hd bg (A0m tk r.1) i r.1 a n c cr r.2
 rw[hp,cond_true]at q7
 refine wp_seq (ec_g hG q7 _ _ _ _ _ a1 w1 h1 _ fun a2 w2 h2=>?_)
 have hun:P0w g td hd cr tk (r :: t)=bif (g (cr,A0m tk r.1,r.2,())).b.toList==(⟨#[]⟩:ByteArray).toList then bif !crfK (g (cr,A0m tk r.1,r.2,())).a cr then false else P0w g td hd cr (A0m tk r.1) t
  else bif !(td ((g (cr,A0m tk r.1,r.2,())).b,())).b then false else bif !hd (cr,(g (cr,A0m tk r.1,r.2,())).a,(td ((g (cr,A0m tk r.1,r.2,())).b,())).a,r.2,()) then false else P0w g td hd (g (cr,A0m tk r.1,r.2,())).a (A0m tk r.1) t:=rfl
 generalize hy:g (cr,A0m tk r.1,r.2,())=y at *
 obtain ⟨nx,s⟩:=y
 dsimp only at he1 he2 hun h2
 have q8e:=Z3c pre g tp td hd bg (A0m tk r.1) i r.1 a n c cr nx r.2 s
 have q8n:=Z3d pre g tp td hd bg (A0m tk r.1) i r.1 a n c cr nx r.2 s
 have low:4096≤eN2:=by decide +kernel
 cases hs:s.toList==(⟨#[]⟩:ByteArray).toList with
 | true =>
  rw[hs,cond_true]at q8e hun
  cases hk:crfK nx cr with
  | false =>
   rw[hk]at q8e hun
   refine wp_seq (ec_g hG q8e _ _ _ _ _ a2 w2 h2 _ fun a3 w3 h3=>?_)
   exact hR a3 w3 _ (by rw[hun];rfl) h3 (G3h ..)
  | true =>
   rw[hk]at q8e hun
   refine wp_seq (ec_g hG q8e _ _ _ _ _ a2 w2 h2 _ fun a3 w3 h3=>?_)
   have h4:=h3.let_go (lo:=eN2) (X1k ..) low rfl
   exact hN a3 w3 cr (.exit 1) (.inr rfl) (he1 hs) (by rw[hun];rfl) h4
 | false =>
  rw[hs,cond_false]at q8n hun
  obtain ⟨ht,hsm,hok2⟩:=he2 hs
  refine wp_seq (ec_g hG q8n _ _ _ _ _ a2 w2 h2 _ fun a3 w3 h3=>?_)
  have q9:=A5a pre g tp td hd bg (A0m tk r.1) i r.1 a n c cr nx r.2 s
  rw[ht,cond_true]at q9
  refine wp_seq (ec_g hG q9 _ _ _ _ _ a3 w3 h3 _ fun a4 w4 h4=>?_)
  have q10:=Y3x pre g tp td hd bg (A0m tk r.1) i r.1 a n c cr nx (td (s,())).b (td (s,())).a r.2
  cases hb:(td (s,())).b with
  | false =>
   rw[hb]at q10 hun h4
   refine wp_seq (ec_g hG q10 _ _ _ _ _ a4 w4 h4 _ fun a5 w5 h5=>?_)
   exact hR a5 w5 _ (by rw[hun];rfl) h5 (E2m ..)
  | true =>
   rw[hb]at q10 hun h4
   rw[Bool.not_true,cond_false]at q10 hun
   rw[show H3h (cr,nx,(td (s,())).a,r.2,())=true from decide_eq_true hsm,cond_true]at q10
   cases hh:hd (cr,nx,(td (s,())).a,r.2,()) with
   | false =>
    rw[hh]at q10 hun
    refine wp_seq (ec_g hG q10 _ _ _ _ _ a4 w4 h4 _ fun a5 w5 h5=>?_)
    exact hR a5 w5 _ (by rw[hun];rfl) h5 (E2m ..)
   | true =>
    rw[hh]at q10 hun
    refine wp_seq (ec_g hG q10 _ _ _ _ _ a4 w4 h4 _ fun a5 w5 h5=>?_)
    refine ec_g hG (Y3y pre g tp td hd bg (A0m tk r.1) i r.1 a n c cr nx r.2) _ _ _ _ _ a5 w5 h5 _ fun a6 w6 h6=>?_
    have h7:=h6.let_go (lo:=eN2) (X1k ..) low rfl
    exact hN a6 w6 nx .normal (.inl rfl) hok2 (by rw[hun];rfl) h7
theorem E2n{w:World}{bg:Int}{a:Option Addr}{c:Nat}{rs:List Rec}(hat:RecAt w a rs.length rs){Q:Exit→Act→World→Prop} :
  ∀(m i:Nat) (cr:Crf) (tk:Int) (act:Act) (w':World),i+m=rs.length→N0t pre g tp cr tk (rs.drop i)→(∀a' w2 cr' tk',P0w g td hd cr tk (rs.drop i)=true→Z1n w (ecS bg a rs.length c cr' tk' rs.length eN2 [] []) a' w2→Q (.exit 0) a' w2) →
   (∀a' w2 s',P0w g td hd cr tk (rs.drop i)=false→Z1n w s' a' w2→resA Tryz.prog s' Tryz.f15.results.toList=some [.val (.bool false)]→Q .ret a' w2)→Z1n w (ecS bg a rs.length c cr tk i eN2 [] []) act w' →
   Code.rounds Tryz.prog (.seq (seqL ecB) (.seq (seqL (seqR ecB)) (.seq (.block 1 (.seq (.region 5 ecO5 false) (.seq (seqL (ecT 1)) (.seq (seqL (ecT 2)) (.seq (seqL (ecT 3)) (.seq (seqL (ecT 4)) (.seq (seqL (ecT 5)) (ecT 6)))))))) (seqR (seqR (seqR ecB)))))) Q (m+1) act w':=by
 intro m
 induction m with
 | zero =>
  intro i cr tk act w' hi _ hQ _ hst
  have hi':i=rs.length:=by omega
  subst hi'
  rw[rounds_succ]
  refine wp_seq (ec_g hG (Z3b pre g tp td hd bg tk rs.length a rs.length c cr) _ _ _ _ _ act w' hst _ fun a1 w1 h1=>?_)
  rw[decide_eq_false (by omega)]at h1
  refine wp_seq (ec_g hG (Z3e pre g tp td hd bg tk rs.length a rs.length c cr false) _ _ _ _ _ a1 w1 h1 _ fun a2 w2 h2=>?_)
  exact hQ a2 w2 cr tk (by rw[List.drop_of_length_le (Nat.le_refl _)];rfl) h2
 | succ m ih =>
  intro i cr tk act w' hi hok hQ hR hst
  rw[rounds_succ]
  have hlt:i<rs.length:=by omega
  refine wp_seq (ec_g hG (Z3b pre g tp td hd bg tk i a rs.length c cr) _ _ _ _ _ act w' hst _ fun a1 w1 h1=>?_)
  rw[decide_eq_true (by omega)]at h1
  refine wp_seq (ec_g hG (Z3e pre g tp td hd bg tk i a rs.length c cr true) _ _ _ _ _ a1 w1 h1 _ fun a2 w2 h2=>?_)
  refine wp_seq (wp_block (wp_seq (wp_region ?_)))
  rw[Z4p]
  have hat2:RecAt w2 a rs.length rs:=hat.later (by obtain ⟨_,_,hf,_⟩:=h2;exact hf.grown) fun k hk=>h2.far hk fun h=>h
  obtain ⟨ad,rfl,_,hc0,hc1⟩:=hat2.lies i hlt
  obtain ⟨ti,hti,hs⟩:=N1z
  refine K0q Z4m (by omega) (E2k ..) v22s hti h2 (b:=ad) (len:=rs.length) (cap:=c) (i:=i) (ik:=.i64) (h2.eval (t:=16) rfl) (h2.eval (t:=18) rfl) hlt _ fun a3 h3=>?_
  have ead:∀k,(ad.add (i*ti.size)).add k=ad.add (i*2+k):=by
   intro k
   rw[hs]
   exact adds ad (i*2) k
  refine N0g Z4n (by omega) (by rw[List.length_set];exact E2k ..) h3 (b:=ad.add (i*ti.size)) (h3.eval (t:=20) (by rw[List.getElem?_set_self (by rw[E2k];omega)])) (L1m (k:=rs[i].1) (d:=rs[i].2) (by rw[ead];exact hc0) (by rw[ead];exact hc1)) _ fun a4 h4=>?_
  refine D0z (B0b (E:={gam:=T1k pre g tp td hd}) hG 4 _) [4096,eN1,eN2] _ (Z4x pre g tp td hd bg tk i rs[i].1 (some ad) (ad.add (i*ti.size)) rs.length c cr rs[i].2) (fun _ _ hj=>D0k hj) h4 [] fun a5 w5 h5=>?_
  have hdr:rs.drop i=rs[i] :: rs.drop (i+1):=List.drop_eq_getElem_cons hlt
  rw[hdr]at hok hQ hR
  refine G3g hG hok h5 (fun a6 w6 cr' e he hok2 heq h6=>?_) fun a6 w6 s' hf h6 hr=>hR a6 w6 s' hf h6 hr
  rw[heq]at hQ hR
  have hw:IntKind.i64.wrap ((i:Int)+1)=((i+1:Nat):Int):=by have :=hat.small;rw[C0k];omega
  have next:(seqR (seqR (seqR ecB))).wp Tryz.prog (Exit.then (Code.rounds Tryz.prog (.seq (seqL ecB) (.seq (seqL (seqR ecB)) (.seq (.block 1 (.seq (.region 5 ecO5 false) (.seq (seqL (ecT 1)) (.seq (seqL (ecT 2)) (.seq (seqL (ecT 3)) (.seq (seqL (ecT 4)) (.seq (seqL (ecT 5)) (ecT 6)))))))) (seqR (seqR (seqR ecB)))))) Q (m+1)) Q) a6 w6:=by
   refine ec_g hG (Y3z pre g tp td hd bg (A0m tk rs[i].1) i (some ad) rs.length c cr') _ _ _ _ _ a6 w6 h6 _ fun a7 w7 h9=>?_
   rw[hw]at h9
   exact ih (i+1) cr' _ a7 w7 (by omega) hok2 hQ hR h9
  rcases he with rfl | rfl
  ·simp only[Ex.to,Exit.inBlock]
   exact next
  ·simp only[Ex.to,Exit.inBlock,if_true]
   exact next
theorem Z1v(bg:Int)(a:Option Addr)(c:Nat)(rs:List Rec)(w:World)(hat:RecAt w a rs.length rs)(hok:N0t pre g tp crf0 bg rs) :
  Calls Tryz.prog 15 #[.agg #[.int .i64 bg,.slice a rs.length c],.func (.func 40) #[] #[]] w fun e w'=>∃v,e=.returned v∧RowKit.Below w.heap.size w w'∧v=.bool (P0w g td hd crf0 bg rs):=by
 refine U0m (vals:=[.agg #[.int .i64 bg,.slice a rs.length c],.func (.func 40) #[] #[]]) (args:=[.val (.agg #[.int .i64 bg,.slice a rs.length c]),.func 40 [] []]) B3w Z4r A5v (by show 2≤60;omega) w (by simp only[Rels,Rel];exact ⟨_,_,rfl,rfl,_,_,rfl,⟨_,_,rfl,rfl,rfl⟩,rfl⟩) fun act Q hst hQ=>?_
 refine wp_seq (ec_g hG (Z4t pre g tp td hd bg a rs.length c) _ _ _ _ _ act w hst _ fun a1 w1 h1=>?_)
 refine wp_seq (ec_g hG (Z4u pre g tp td hd bg a rs.length c) _ _ _ _ _ a1 w1 h1 _ fun a2 w2 h2=>?_)
 refine wp_seq (ec_g hG (Z4v pre g tp td hd bg a rs.length c) _ _ _ _ _ a2 w2 h2 _ fun a3 w3 h3=>?_)
 refine wp_seq (wp_seq (ec_g hG (Z4w pre g tp td hd bg a rs.length c) _ _ _ _ _ a3 w3 h3 _ fun a4 w4 h4=>?_))
 refine wp_block (wp_loop_rounds (rs.length+1) (E2n hG hat rs.length 0 crf0 bg a4 w4 (by omega) (by rw[List.drop_zero];exact hok) (fun a5 w5 cr' tk' ht h5=>?_) (fun a5 w5 s' hf h5 hr=>?_) h4))
 ·simp only[Exit.inBlock,if_true]
  rw[List.drop_zero]at ht
  refine ec_g hG (Z3a pre g tp td hd bg tk' rs.length a rs.length c cr') _ _ _ _ _ a5 w5 h5 _ fun a6 w6 h6=>?_
  exact hQ .ret a6 w6 _ _ _ (.inr rfl) h6 (Z3g ..) rfl (by rw[ht])
 ·rw[List.drop_zero]at hf
  exact hQ .ret a5 w5 _ _ _ (.inr rfl) h5 hr rfl (by rw[hf])
end
def andV(a b:Int):Int:=IntKind.i64.wrap ((BitVec.ofInt IntKind.i64.bits a &&& BitVec.ofInt IntKind.i64.bits b).toNat:Int)
def yesB(b:Bool):Option (AV×List Con):=some (.val (.bool b),[])
def H2a(b:Crf):Bool:=bif b.plan.mode==1 then bif decide (andV b.plan.faults 1>0) then true else b.plan.mode==3 else b.plan.mode==3
def C5g(p:R0y):Bool:=bif p.1.plan.mode != 2 then true else bif decide (IntKind.i64.wrap (p.2.1.tk-p.1.tk)≥10) then bif decide (IntKind.i64.wrap (p.2.1.tk-p.1.tk)≤10000) then true else H2a p.2.1 else H2a p.2.1
theorem K1b{c:Crf}{tk:Int}(h:P0g c ST.rt tk=false):A0z tk=true∧(c.on=true→c.tk<tk):=by
 unfold P0g at h
 have hr:ST.rt (tk,())=A0z tk:=rfl
 rw[hr]at h
 cases ht:A0z tk with
 | false=>rw[ht]at h;cases h
 | true =>
  rw[ht,Bool.not_true,cond_false]at h
  refine ⟨rfl,fun hon=>?_⟩
  rw[hon,cond_true]at h
  have :=of_decide_eq_false h
  omega
theorem Z0g(x:CX):((cstT ST x).toList==(⟨#[]⟩:ByteArray).toList)=false:=by
 obtain ⟨l,h⟩:=R1c x
 rw[h,ByteArray.toList_eq,ByteArray.toList_eq,G0b]
 rfl
theorem K0e{hd:R0y→Bool}(hh:∀(c:Crf) (tk:Int) (b:ByteArray),CIn c→P0g c ST.rt tk=false→hd (c,(endX ST tk (cstH ST c tk b)).2.1,H0h (endX ST tk (cstH ST c tk b)),b,())=true) :
  ∀(rs:List Rec) (c:Crf) (tk:Int),CIn c→c.left.size+(rs.map fun r=>r.2.size).sum≤1099511627776→N0t B0y D0d N0p c tk rs∧P0w D0d M1b hd c tk rs=true
 | [],_,_,_,_=>⟨trivial,rfl⟩
 | r :: t,c,tk,hc,hs=>by
  simp only[List.map_cons,List.sum_cons]at hs
  cases hl:P0g c ST.rt (A0m tk r.1) with
  | true =>
   have e:D0d (c,A0m tk r.1,r.2,())=⟨c,⟨#[]⟩⟩:=by unfold D0d X0q;dsimp only;rw[hl];rfl
   have hp:B0y (c,A0m tk r.1,r.2,())=true:=by unfold B0y J0z;dsimp only;rw[hl];rfl
   obtain ⟨i1,i2⟩:=K0e hh t c (A0m tk r.1) hc (by omega)
   have em:((⟨#[]⟩:ByteArray).toList==(⟨#[]⟩:ByteArray).toList)=true:=by simp
   constructor
   ·unfold N0t
    rw[e]
    exact ⟨hp,fun _=>i1,fun h=>(by rw[em]at h;cases h)⟩
   ·unfold P0w
    rw[e]
    dsimp only
    rw[em,Z0t,cond_true]
    exact i2
  | false =>
   obtain ⟨ht,hon⟩:=K1b hl
   generalize hk:A0m tk r.1=k at *
   have hx:XIn k (gapV c k) (gapV c k==0) c.plan.mode (c.left.size+r.2.size) (cstH ST c k r.2):=(hc.start k (by omega)).heard r.2 (Nat.le_refl _)
   have hi:=X1m hx ht
   have hleft:=Z0c hx
   have htk:(endX ST k (cstH ST c k r.2)).1.tk=k:=L1w hx k
   obtain ⟨b1,b2⟩:=D1c (x:=endX ST k (cstH ST c k r.2)) hi (by rw[htk];exact ht)
   have e:D0d (c,k,r.2,())=⟨(endX ST k (cstH ST c k r.2)).2.1,cstT ST (endX ST k (cstH ST c k r.2))⟩:=by unfold D0d X0q;dsimp only;rw[hl];rfl
   have hp:B0y (c,k,r.2,())=true:=by
    unfold B0y J0z
    dsimp only
    rw[hl,cond_false]
    have h1:ST.hp (stp1 c k,c,rds0) (r.2,())=true:=decide_eq_true (by show c.left.size+r.2.size≤_;omega)
    rw[h1,hx.driftOk]
    rfl
   have hne:=Z0g (endX ST k (cstH ST c k r.2))
   obtain ⟨i1,i2⟩:=K0e hh t (endX ST k (cstH ST c k r.2)).2.1 k hi (by omega)
   constructor
   ·unfold N0t
    rw[hk,e]
    exact ⟨hp,fun h=>(by rw[hne]at h;cases h),fun _=>⟨b1,by omega,i1⟩⟩
   ·unfold P0w
    rw[hk,e]
    dsimp only
    rw[hne,cond_false,b2]
    dsimp only
    rw[hh c k r.2 hc hl]
    exact i2
noncomputable def fwR:Nat→Code
 | 0=>Tryz.f27.body.getD .skip
 | k+1=>seqR (fwR k)
noncomputable def fwL(k:Nat):Code:=seqL (fwR k)
noncomputable def fwB:Code:=inB (inB (seqR (fwL 2)))
noncomputable def fwB1:Code:=inB (seqL (seqR (seqR fwB)))
noncomputable def fwO4:Array Oper:=regO (seqL fwB1)
theorem B5j:Tryz.f27.body=some (.seq (fwL 0) (.seq (fwL 1) (.seq (.seq (seqL (fwL 2)) (.block 0 (.loop (.seq (seqL fwB) (.seq (seqL (seqR fwB)) (.seq (.block 1 (.seq (.region 4 fwO4 false) (seqR fwB1))) (seqR (seqR (seqR fwB))))))))) (fwR 3)))):=by kernel_rfl
theorem C3c:Tryz.prog.funcs[27]?=some Tryz.f27:=by kernel_rfl
theorem B5a:Tryz.f27.ntmps=23:=by kernel_rfl
theorem B5e:B0a fwO4 0=some (.indexAddr 22 (.tmp 6) (.tmp 8),some 10,true):=by kernel_rfl
theorem B5g:B0a fwO4 1=some (.load 70 (.tmp 10),some 11,true):=by kernel_rfl
theorem B5h:List.range fwO4.size=0 :: 1 :: ((List.range (fwO4.toList.drop 2).length).map (2+·)++[]):=by kernel_rfl
def fwN1:Nat:=4096+1*2^180
def fwI(a:Option Addr)(n c:Nat)(s i:Int)(tm:List (Nat×AV)):St:=gSt 23 ([(2,.val (.bool false)),(3,.val (.int .i64 s)),(6,.val (.slice a n c)),(7,.val (.int .i64 n)),(8,.val (.int .i64 i))]++tm) [] 4096
def fwF(a:Option Addr)(n c:Nat)(s i k:Int)(d:ByteArray):St:=gSt 23 [(2,.val (.bool false)),(3,.val (.int .i64 s)),(6,.val (.slice a n c)),(7,.val (.int .i64 n)),(8,.val (.int .i64 i)),(5,.ptr 4096 0)] [(4096,.row 70 [.val (.int .i64 k),.val (.string d)])] fwN1
def fwV(b:Bool):St:=gSt 23 [(2,.val (.bool b))] [] 4096
section
variable (s i k:Int) (a:Option Addr) (ad:Addr) (n c:Nat) (t:Bool) (d:ByteArray)
noncomputable abbrev J1t(c:Code)(s:St)(ks ts:List Nat):Option (Ex×St):=gRun Tryz.prog {gam:=[]} 23 c s ks ts
theorem B5k:J1t (fwL 0) (B0t 23 [.val (.slice a n c)] []) [] [0,2]=some (.normal,gSt 23 [(0,.val (.slice a n c)),(2,.val (.bool false))] [] 4096):=by kernel_rfl
theorem B5m:J1t (fwL 1) (gSt 23 [(0,.val (.slice a n c)),(2,.val (.bool false))] [] 4096) [] [0,2,3]=some (.normal,gSt 23 [(0,.val (.slice a n c)),(2,.val (.bool false)),(3,.val (.int .i64 0))] [] 4096):=by kernel_rfl
theorem B5n:J1t (seqL (fwL 2)) (gSt 23 [(0,.val (.slice a n c)),(2,.val (.bool false)),(3,.val (.int .i64 0))] [] 4096) [] [0,2,3,6,7,8]=some (.normal,fwI a n c 0 0 [(0,.val (.slice a n c))]):=by kernel_rfl
theorem A4p:J1t (seqL fwB) (fwI a n c s i [(0,.val (.slice a n c))]) [] [0,2,3,6,7,8,9]=some (.normal,fwI a n c s i [(0,.val (.slice a n c)),(9,.val (.bool (decide (i<n))))]):=by kernel_rfl
theorem A4q:J1t (seqL (seqR fwB)) (fwI a n c s i [(0,.val (.slice a n c)),(9,.val (.bool t))]) [] [0,2,3,6,7,8]=bif t then some (.normal,fwI a n c s i [(0,.val (.slice a n c))]) else some (.exit 0,fwI a n c s i [(0,.val (.slice a n c))]):=by kernel_rfl
theorem B5p:B0j Tryz.prog (B0v Tryz.prog {gam:=[]} 4 (Bool×St)) (B0p []) 23 fwO4 (fwO4.toList.drop 2) {fwI a n c s i [(0,.val (.slice a n c))]with tmps:=((fwI a n c s i [(0,.val (.slice a n c))]).tmps.set 10 (.val (.pointer (some ad)))).set 11 (.val (.agg (List.toArray [.int .i64 k,.string d])))} [] (C0p [4096] (E0d 23 [0,2,3,5,6,7,8]))=some (true,{fwF a n c s i k d with tmps:=(fwF a n c s i k d).tmps.set 0 (.val (.slice a n c))}):=by kernel_rfl
theorem B5q:J1t (seqR fwB1) {fwF a n c s i k d with tmps:=(fwF a n c s i k d).tmps.set 0 (.val (.slice a n c))} [] [0,2,3,6,7,8]=bif decide (wI (s+(d.size:Int))>3000) then some (.ret,{fwI a n c (wI (s+(d.size:Int))) i [(0,.val (.slice a n c))]with lo:=fwN1}) else some (.normal,{fwI a n c (wI (s+(d.size:Int))) i [(0,.val (.slice a n c))]with lo:=fwN1}):=by kernel_rfl
theorem B5r:J1t (seqR (seqR (seqR fwB))) (fwI a n c s i [(0,.val (.slice a n c))]) [] [0,2,3,6,7,8]=some (.normal,fwI a n c s (wI (i+1)) [(0,.val (.slice a n c))]):=by kernel_rfl
theorem B5t:J1t (fwR 3) (fwI a n c s i [(0,.val (.slice a n c))]) [] [2]=some (.ret,fwV (decide ((n:Int)≤30))):=by kernel_rfl
theorem V2q(lo:Nat):A0p 4096 {fwI a n c s i [(0,.val (.slice a n c))]with lo:=lo}=true:=by kernel_rfl
theorem G2r:(fwI a n c s i [(0,.val (.slice a n c))]).tmps.length=23:=by kernel_rfl
theorem G3x(lo:Nat):resA Tryz.prog {fwI a n c s i [(0,.val (.slice a n c))]with lo:=lo} Tryz.f27.results.toList=some [.val (.bool false)]:=by kernel_rfl
theorem G3y:resA Tryz.prog (fwV t) Tryz.f27.results.toList=some [.val (.bool t)]:=by kernel_rfl
end
abbrev T2x(w:World)(s:St)(a:Act)(w':World):Prop:=A0j 23 w U1k N0x 4096 (4096+2^200) s a w'
theorem fw_g{c:Code}{s s1:St}{e:Ex}{ks ts:List Nat}(h:J1t c s ks ts=some (e,s1)):A0b Tryz.prog 23 c s e s1:=A0a (E:={gam:=[]}) GamOk.nil h
theorem G2t{w:World}{a:Option Addr}{c:Nat}{rs:List Rec}(hat:RecAt w a rs.length rs){Q:Exit→Act→World→Prop} :
  ∀(m i:Nat) (s:Int) (act:Act) (w':World),i+m=rs.length→(∀a' w2 s',M0q s (rs.drop i)=true→T2x w (fwI a rs.length c s' rs.length [(0,.val (.slice a rs.length c))]) a' w2→Q (.exit 0) a' w2) →
   (∀a' w2 s' i' lo,M0q s (rs.drop i)=false→T2x w {fwI a rs.length c s' i' [(0,.val (.slice a rs.length c))]with lo:=lo} a' w2→Q .ret a' w2)→T2x w (fwI a rs.length c s i [(0,.val (.slice a rs.length c))]) act w' →
   Code.rounds Tryz.prog (.seq (seqL fwB) (.seq (seqL (seqR fwB)) (.seq (.block 1 (.seq (.region 4 fwO4 false) (seqR fwB1))) (seqR (seqR (seqR fwB)))))) Q (m+1) act w':=by
 intro m
 induction m with
 | zero =>
  intro i s act w' hi hQ _ hst
  have hi':i=rs.length:=by omega
  subst hi'
  rw[rounds_succ]
  refine wp_seq (fw_g (A4p s rs.length a rs.length c) _ _ _ _ _ act w' hst _ fun a1 w1 h1=>?_)
  rw[decide_eq_false (by omega)]at h1
  refine wp_seq (fw_g (A4q s rs.length a rs.length c false) _ _ _ _ _ a1 w1 h1 _ fun a2 w2 h2=>?_)
  exact hQ a2 w2 s (by rw[List.drop_of_length_le (Nat.le_refl _)];rfl) h2
 | succ m ih =>
  intro i s act w' hi hQ hR hst
  rw[rounds_succ]
  have hlt:i<rs.length:=by omega
  refine wp_seq (fw_g (A4p s i a rs.length c) _ _ _ _ _ act w' hst _ fun a1 w1 h1=>?_)
  rw[decide_eq_true (by omega)]at h1
  refine wp_seq (fw_g (A4q s i a rs.length c true) _ _ _ _ _ a1 w1 h1 _ fun a2 w2 h2=>?_)
  refine wp_seq (wp_block (wp_seq (wp_region ?_)))
  rw[B5h]
  have hat2:RecAt w2 a rs.length rs:=hat.later (by obtain ⟨_,_,hf,_⟩:=h2;exact hf.grown) fun k hk=>h2.far hk fun h=>h
  obtain ⟨ad,rfl,_,hc0,hc1⟩:=hat2.lies i hlt
  obtain ⟨ti,hti,hs⟩:=N1z
  refine K0q B5e (by omega) (G2r ..) v22s hti h2 (b:=ad) (len:=rs.length) (cap:=c) (i:=i) (ik:=.i64) (h2.eval (t:=6) rfl) (h2.eval (t:=8) rfl) hlt _ fun a3 h3=>?_
  have ead:∀k,(ad.add (i*ti.size)).add k=ad.add (i*2+k):=by
   intro k
   rw[hs]
   exact adds ad (i*2) k
  refine N0g B5g (by omega) (by rw[List.length_set];exact G2r ..) h3 (b:=ad.add (i*ti.size)) (h3.eval (t:=10) (by rw[List.getElem?_set_self (by rw[G2r];omega)])) (L1m (k:=rs[i].1) (d:=rs[i].2) (by rw[ead];exact hc0) (by rw[ead];exact hc1)) _ fun a4 h4=>?_
  refine D0z (B0b (E:={gam:=[]}) GamOk.nil 4 _) [4096] _ (B5p s i rs[i].1 (some ad) (ad.add (i*ti.size)) rs.length c rs[i].2) (fun _ _ hj=>D0k hj) h4 [] fun a5 w5 h5=>?_
  change Code.wp Tryz.prog (seqR fwB1) _ a5 w5
  have hd:rs.drop i=rs[i] :: rs.drop (i+1):=List.drop_eq_getElem_cons hlt
  rw[hd]at hQ hR
  have hq:=B5q s i rs[i].1 (some ad) rs.length c rs[i].2
  cases hbig:decide (wI (s+(rs[i].2.size:Int))>3000) with
  | true =>
   rw[hbig,cond_true]at hq
   refine fw_g hq _ _ _ _ _ a5 w5 h5 _ fun a6 w6 h6=>?_
   exact hR a6 w6 _ _ _ (by unfold M0q;rw[hbig];rfl) h6
  | false =>
   rw[hbig,cond_false]at hq
   refine fw_g hq _ _ _ _ _ a5 w5 h5 _ fun a6 w6 h6=>?_
   simp only[Ex.to,Exit.inBlock]
   have h8:T2x w (fwI (some ad) rs.length c (wI (s+(rs[i].2.size:Int))) i [(0,.val (.slice (some ad) rs.length c))]) a6 w6:=h6.let_go (lo:=4096) (V2q ..) (Nat.le_refl _) rfl
   refine fw_g (B5r _ i (some ad) rs.length c) _ _ _ _ _ a6 w6 h8 _ fun a7 w7 h9=>?_
   have hw:wI ((i:Int)+1)=((i+1:Nat):Int):=by have :=hat.small;unfold wI;rw[C0k];omega
   rw[hw]at h9
   have hsum:M0q s (rs[i] :: rs.drop (i+1))=M0q (wI (s+(rs[i].2.size:Int))) (rs.drop (i+1)):=by
    show (bif decide (wI (s+(rs[i].2.size:Int))>3000) then false else M0q (wI (s+(rs[i].2.size:Int))) (rs.drop (i+1)))=_
    rw[hbig]
    rfl
   rw[hsum]at hQ hR
   exact ih (i+1) _ a7 w7 (by omega) hQ hR h9
def fewV(rs:List Rec):Bool:=M0q 0 rs&&decide ((rs.length:Int)≤30)
theorem E2y(a:Option Addr)(c:Nat)(rs:List Rec)(w:World)(hat:RecAt w a rs.length rs) :
  Calls Tryz.prog 27 #[.slice a rs.length c] w fun e w'=>∃v,e=.returned v∧RowKit.Below w.heap.size w w'∧v=.bool (fewV rs):=by
 refine U0m (vals:=[.slice a rs.length c]) (args:=[.val (.slice a rs.length c)]) C3c B5j B5a (by show 1≤23;omega) w (by simp only[Rels,Rel];exact ⟨_,_,rfl,rfl,rfl⟩) fun act Q hst hQ=>?_
 refine wp_seq (fw_g (B5k a rs.length c) _ _ _ _ _ act w hst _ fun a1 w1 h1=>?_)
 refine wp_seq (fw_g (B5m a rs.length c) _ _ _ _ _ a1 w1 h1 _ fun a2 w2 h2=>?_)
 refine wp_seq (wp_seq (fw_g (B5n a rs.length c) _ _ _ _ _ a2 w2 h2 _ fun a3 w3 h3=>?_))
 refine wp_block (wp_loop_rounds (rs.length+1) (G2t hat rs.length 0 0 a3 w3 (by omega) (fun a4 w4 s' hs h4=>?_) (fun a4 w4 s' i' lo hs h4=>?_) h3))
 ·simp only[Exit.inBlock,if_true]
  rw[List.drop_zero]at hs
  refine fw_g (B5t s' rs.length a rs.length c) _ _ _ _ _ a4 w4 h4 _ fun a5 w5 h5=>?_
  have e:fewV rs=decide ((rs.length:Int)≤30):=by unfold fewV;rw[hs];rfl
  exact hQ .ret a5 w5 _ _ _ (.inr rfl) h5 (G3y ..) rfl (by rw[e])
 ·rw[List.drop_zero]at hs
  have e:fewV rs=false:=by unfold fewV;rw[hs];rfl
  exact hQ .ret a4 w4 _ _ _ (.inr rfl) h4 (G3x ..) rfl (by rw[e])
end Go.Ab
