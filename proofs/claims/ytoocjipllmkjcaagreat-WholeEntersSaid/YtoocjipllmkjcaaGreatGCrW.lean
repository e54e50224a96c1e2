/- A part of the proofs: lemmas, no statement of their own; no condition. -/
import Derived.Test.YtoocjipllmkjcaaGreatGCrQ
import Derived.Test.YtoocjipllmkjcaaGreatGFxH
import Derived.Test.YtoocjipllmkjcaaGreatGFsB
set_option linter.unusedSimpArgs false
namespace Go.Ab
open Go Go.Proofs
theorem D2q:B0y (crf0,5,⟨#[]⟩,())=true:=by kernel_rfl
theorem D3z:(D0d (crf0,5,⟨#[]⟩,())).a.on=true:=by kernel_rfl
theorem W2k(pre:StpA→Bool)(g:StpA→Two Crf ByteArray)(tp:ByteArray×Unit→Bool)(td:ByteArray×Unit→Two Tl Bool):fnSum Tryz.prog {gam:=[(25,S0w pre g),(44,S0c tp td)]} [] 20 13 [] [] =
  bif pre (crf0,5,⟨#[]⟩,()) then bif tp ((g (crf0,5,⟨#[]⟩,())).b,()) then bif (g (crf0,5,⟨#[]⟩,())).a.on then bif (td ((g (crf0,5,⟨#[]⟩,())).b,())).b then bif (td ((g (crf0,5,⟨#[]⟩,())).b,())).a.mode==0 then
   some (.val (.bool ((td ((g (crf0,5,⟨#[]⟩,())).b,())).a.tk==5)),[]) else some (.val (.bool false),[]) else some (.val (.bool false),[]) else some (.val (.bool false),[]) else none else none:=by kernel_rfl
theorem T1h:CIn crf0:=⟨⟨by decide,by decide,by decide,by decide,by decide,by decide⟩,by decide,by decide,by decide,by kernel_rfl,by decide⟩
theorem D3y:(D0d (crf0,5,⟨#[]⟩,())).a.plan.mode=0:=by kernel_rfl
theorem aw_x:D0d (crf0,5,⟨#[]⟩,())=⟨(endX ST 5 (cstH ST crf0 5 ⟨#[]⟩)).2.1,cstT ST (endX ST 5 (cstH ST crf0 5 ⟨#[]⟩))⟩:=by
 have hl:P0g crf0 ST.rt 5=false:=by kernel_rfl
 unfold D0d X0q
 dsimp only
 rw[hl]
 rfl
theorem L1w{tk gap m:Int}{g:Bool}{N:Nat}{x:CX}(h:XIn tk gap g m N x)(t:Int):(endX ST t x).1.tk=tk:=by
 have h1:=h.ahead
 have h2:=K1y h1
 unfold endX
 show (N0h _).1.tk=tk
 rw[h2.s]
 exact h1.stk
theorem X2u:A0h Tryz.prog 13 (S0 fun (_:Unit)=>true):=H0n (E:={gam:=[(25,S0w B0y D0d),(44,S0c N0p M1b)]}) (.cons K1m (.cons C3n .nil)) 20 fun a=>by
 have hx:=(T1h.start 5 (N:=0) (Nat.le_refl _)).heard ⟨#[]⟩ (Nat.le_refl _)
 have ht:A0z 5=true:=by kernel_rfl
 have hc:=X1m hx ht
 have hk:(endX ST 5 (cstH ST crf0 5 ⟨#[]⟩)).1.tk=5:=L1w hx 5
 obtain ⟨b1,b2⟩:=D1c (x:=endX ST 5 (cstH ST crf0 5 ⟨#[]⟩)) hc (by rw[hk];exact ht)
 refine (W2k B0y D0d N0p M1b).trans ?_
 have hon:=D3z
 have hm:=D3y
 rw[D2q]
 rw[aw_x]at hon hm ⊢
 dsimp only at hon hm ⊢
 rw[b1,b2,hon]
 have e1:(H0h (endX ST 5 (cstH ST crf0 5 ⟨#[]⟩))).mode=0:=hm
 have e2:(H0h (endX ST 5 (cstH ST crf0 5 ⟨#[]⟩))).tk=5:=hk
 dsimp only
 rw[e1,e2]
 rfl
abbrev Rec:=Int×ByteArray
structure RecAt(w:World)(a:Option Addr)(n:Nat)(rs:List Rec):Prop where
 len:rs.length=n
 small:n≤140737488355328
 lies:∀i (hi:i<rs.length),∃ad,a=some ad∧ad.block<w.heap.size∧w.cell? (ad.add (i*2+0))=some (.int .i64 rs[i].1)∧w.cell? (ad.add (i*2+1))=some (.string rs[i].2)
theorem U0k(ad:Addr)(k:Nat):(ad.add k).block=ad.block:=by unfold Addr.add;split<;>rfl
theorem RecAt.later{w w':World}{a:Option Addr}{n:Nat}{rs:List Rec}(h:RecAt w a n rs)(hg:w.heap.size≤w'.heap.size)(hk:∀k,k<w.heap.size→w'.heap[k]?=w.heap[k]?):RecAt w' a n rs:=by
 refine ⟨h.len,h.small,fun i hi=>?_⟩
 obtain ⟨ad,h1,h2,h3,h4⟩:=h.lies i hi
 refine ⟨ad,h1,by omega,?_,?_⟩
 ·simp only[World.cell?,U0k,hk _ h2]at h3 ⊢
  exact h3
 ·simp only[World.cell?,U0k,hk _ h2]at h4 ⊢
  exact h4
theorem v22s:Tryz.prog.underlying 22=some (.slice 70):=by kernel_rfl
theorem i70:(Tryz.prog.info? 70).map (·.size)=some 2:=by kernel_rfl
theorem u70:(Tryz.prog.underlying 70).map R0n=some true:=by kernel_rfl
theorem N1z:∃ti,Tryz.prog.info? 70=some ti∧ti.size=2:=T1z i70
theorem Q5m:∃td,Tryz.prog.underlying 70=some td∧R0n td=true:=by
 have h:=u70
 cases hu:Tryz.prog.underlying 70 with
 | none=>rw[hu]at h;cases h
 | some d=>rw[hu]at h;exact ⟨d,rfl,by simpa using h⟩
theorem L1m{w:World}{ad:Addr}{k:Int}{d:ByteArray}(h0:w.cell? (ad.add 0)=some (.int .i64 k))(h1:w.cell? (ad.add 1)=some (.string d)):(loadVar 70 ad).run Tryz.prog w=.ok (.agg (List.toArray [.int .i64 k,.string d])) w:=by
 obtain ⟨ti,hti,hs⟩:=N1z
 obtain ⟨td,htd,hag⟩:=Q5m
 unfold loadVar
 rw[Sem.run_bind,M0v htd w,hag]
 simp only[Result.andThen_ok,if_true,Sem.run_bind,B0q hti w]
 have :=Q0m (P:=Tryz.prog) (w:=w) (a:=ad) ti.size 0 [.int .i64 k,.string d] #[] (by rw[hs];rfl) fun j c hj=>by
  match j,hj with
  | 0,hj=>cases hj;exact h0
  | 1,hj=>cases hj;exact h1
  | j+2,hj=>simp at hj
 unfold loadCells
 rw[this]
 simp
noncomputable def lgR:Nat→Code
 | 0=>Tryz.f14.body.getD .skip
 | k+1=>seqR (lgR k)
noncomputable def lgL(k:Nat):Code:=seqL (lgR k)
noncomputable def lgB:Code:=inB (inB (seqR (lgL 2)))
noncomputable def lgB1:Code:=inB (seqL (seqR (seqR lgB)))
noncomputable def lgO4:Array Oper:=regO (seqL lgB1)
theorem G5b:Tryz.f14.body=some (.seq (lgL 0) (.seq (lgL 1) (.seq (.seq (seqL (lgL 2)) (.block 0 (.loop (.seq (seqL lgB) (.seq (seqL (seqR lgB)) (.seq (.block 1 (.seq (.region 4 lgO4 false) (seqR lgB1))) (seqR (seqR (seqR lgB))))))))) (lgR 3)))):=by kernel_rfl
theorem B3v:Tryz.prog.funcs[14]?=some Tryz.f14:=by kernel_rfl
theorem A5u:Tryz.f14.ntmps=35:=by kernel_rfl
theorem E5y:B0a lgO4 0=some (.indexAddr 22 (.tmp 7) (.tmp 9),some 11,true):=by kernel_rfl
theorem E5z:B0a lgO4 1=some (.load 70 (.tmp 11),some 12,true):=by kernel_rfl
theorem G5a:List.range lgO4.size=0 :: 1 :: ((List.range (lgO4.toList.drop 2).length).map (2+·)++[]):=by kernel_rfl
def D1v(bg:Int)(a:Option Addr)(n c:Nat):Con:=.row 24 [.val (.int .i64 bg),.val (.slice a n c)]
def lN1:Nat:=4096+1*2^180
def lN2:Nat:=4096+2*2^180
def lgS(bg:Int)(a:Option Addr)(n c:Nat)(tm:List (Nat×AV)):St:=gSt 35 ([(1,.ptr 4096 0),(2,.val (.bool false))]++tm) [(4096,D1v bg a n c)] lN1
def lgI(bg:Int)(a:Option Addr)(n c:Nat)(s i:Int)(tm:List (Nat×AV)):St:=lgS bg a n c ([(3,.val (.int .i64 s)),(7,.val (.slice a n c)),(8,.val (.int .i64 n)),(9,.val (.int .i64 i))]++tm)
def lgF(bg:Int)(a:Option Addr)(n c:Nat)(s i k:Int)(d:ByteArray):St:=gSt 35 [(1,.ptr 4096 0),(2,.val (.bool false)),(3,.val (.int .i64 s)),(7,.val (.slice a n c)),(8,.val (.int .i64 n)),(9,.val (.int .i64 i)),(5,.ptr lN1 0)] [(4096,D1v bg a n c),(lN1,.row 70 [.val (.int .i64 k),.val (.string d)])] lN2
def lgV(b:Bool)(lo:Nat):St:=gSt 35 [(2,.val (.bool b))] [] lo
section
variable (bg s i k:Int) (a:Option Addr) (ad:Addr) (n c:Nat) (t:Bool) (d:ByteArray)
noncomputable abbrev D1q(c:Code)(s:St)(ks ts:List Nat):Option (Ex×St):=gRun Tryz.prog {gam:=[]} 35 c s ks ts
theorem G5c:D1q (lgL 0) (B0t 35 [.val (.agg #[.int .i64 bg,.slice a n c])] []) [4096] [1,2]=some (.normal,lgS bg a n c []):=by kernel_rfl
theorem G5d:D1q (lgL 1) (lgS bg a n c []) [4096] [1,2,3]=some (.normal,lgS bg a n c [(3,.val (.int .i64 0))]):=by kernel_rfl
theorem G5e:D1q (seqL (lgL 2)) (lgS bg a n c [(3,.val (.int .i64 0))]) [4096] [1,2,3,7,8,9]=some (.normal,lgI bg a n c 0 0 []):=by kernel_rfl
theorem C4k:D1q (seqL lgB) (lgI bg a n c s i []) [4096] [1,2,3,7,8,9,10]=some (.normal,lgI bg a n c s i [(10,.val (.bool (decide (i<n))))]):=by kernel_rfl
theorem C4m:D1q (seqL (seqR lgB)) (lgI bg a n c s i [(10,.val (.bool t))]) [4096] [1,2,3,7,8,9]=bif t then some (.normal,lgI bg a n c s i []) else some (.exit 0,lgI bg a n c s i []):=by kernel_rfl
theorem G5g:B0j Tryz.prog (B0v Tryz.prog {gam:=[]} 4 (Bool×St)) (B0p []) 35 lgO4 (lgO4.toList.drop 2) {lgI bg a n c s i []with tmps:=((lgI bg a n c s i []).tmps.set 11 (.val (.pointer (some ad)))).set 12 (.val (.agg (List.toArray [.int .i64 k,.string d])))} [] (C0p [4096,lN1] (E0d 35 [1,2,3,5,7,8,9]))=some (true,lgF bg a n c s i k d):=by kernel_rfl
theorem G5h:D1q (seqR lgB1) (lgF bg a n c s i k d) [4096] [1,2,3,7,8,9]=bif decide (wI (s+(d.size:Int))>3000) then some (.ret,{lgI bg a n c (wI (s+(d.size:Int))) i []with lo:=lN2}) else some (.normal,{lgI bg a n c (wI (s+(d.size:Int))) i []with lo:=lN2}):=by kernel_rfl
theorem G5j:D1q (seqR (seqR (seqR lgB))) (lgI bg a n c s i []) [4096] [1,2,3,7,8,9]=some (.normal,lgI bg a n c s (wI (i+1)) []):=by kernel_rfl
theorem G5k:D1q (lgR 3) (lgI bg a n c s i []) [] [2]=bif decide ((n:Int)≤30) then bif decide (bg≥0) then some (.ret,lgV (decide (bg≤157766400000)) lN1) else some (.ret,lgV false lN1) else some (.ret,lgV false lN1):=by kernel_rfl
end
def eqK:List Int→List Int→Bool
 | a :: r,b :: t=>a==b&&eqK r t
 | _,_=>true
theorem J1j:∀l:List Int,eqK l l=true
 | []=>rfl
 | a :: r=>by simp[eqK,J1j r]
def r6L(r:R6):List Int:=[r.a,r.b,r.c,r.d,r.e,r.f]
def gsK(a b:Gs):Bool:=eqK [a.q.w,a.q.x,a.q.y,a.q.z] [b.q.w,b.q.x,b.q.y,b.q.z]&&(eqK [a.bias.x,a.bias.y,a.bias.z] [b.bias.x,b.bias.y,b.bias.z] &&
 ((eqK (r6L a.p.a) (r6L b.p.a)&&(eqK (r6L a.p.b) (r6L b.p.b)&&(eqK (r6L a.p.c) (r6L b.p.c)&&(eqK (r6L a.p.d) (r6L b.p.d)&&(eqK (r6L a.p.e) (r6L b.p.e)&&(eqK (r6L a.p.f) (r6L b.p.f)&&true))))))&&true))
def plK(a b:Pl):Bool:=eqK [a.mode,a.calm,a.good,a.miss,a.lost,a.faults] [b.mode,b.calm,b.good,b.miss,b.lost,b.faults]
def orK(a b:Orb):Bool:=eqK [a.a,a.e,a.i,a.node,a.peri,a.m,a.tk] [b.a,b.e,b.i,b.node,b.peri,b.m,b.tk]
def drK(a b:Dr):Bool:=a.on==b.on&&(a.tick==b.tick&&(eqK [a.last.x,a.last.y,a.last.z] [b.last.x,b.last.y,b.last.z]&&(eqK [a.rate.x,a.rate.y,a.rate.z] [b.rate.x,b.rate.y,b.rate.z]&&true)))
def crfK(a b:Crf):Bool:=a.on==b.on&&(a.tk==b.tk&&(a.left==b.left&&(plK a.plan b.plan&&(a.placed==b.placed&&(orK a.orb b.orb&&(drK a.drift b.drift&&(gsK a.guess b.guess&&(a.ack==b.ack&&(a.err==b.err&&(a.rej==b.rej&&true))))))))))
theorem E3c(s:ByteArray):(s==s)=true:=by
 unfold BEq.beq
 show (s.data==s.data)=true
 exact beq_self_eq_true s.data
theorem Z0t(a:Crf):crfK a a=true:=by simp[crfK,plK,orK,drK,gsK,J1j,E3c]
section
variable (aw:Bool) (pre:StpA→Bool) (g:StpA→Two Crf ByteArray) (c:Crf) (tk i:Int) (b:ByteArray) (x y:Two Crf ByteArray)
end
noncomputable def ecR:Nat→Code
 | 0=>Tryz.f15.body.getD .skip
 | k+1=>seqR (ecR k)
noncomputable def ecL(k:Nat):Code:=seqL (ecR k)
noncomputable def ecB:Code:=inB (inB (seqR (ecL 3)))
noncomputable def ecB1:Code:=inB (seqL (seqR (seqR ecB)))
noncomputable def ecT:Nat→Code
 | 0=>ecB1
 | k+1=>seqR (ecT k)
noncomputable def ecO5:Array Oper:=regO (seqL ecB1)
theorem Z4r:Tryz.f15.body=some (.seq (ecL 0) (.seq (ecL 1) (.seq (ecL 2) (.seq (.seq (seqL (ecL 3)) (.block 0 (.loop (.seq (seqL ecB) (.seq (seqL (seqR ecB)) (.seq (.block 1 (.seq (.region 5 ecO5 false) (.seq (seqL (ecT 1)) (.seq (seqL (ecT 2)) (.seq (seqL (ecT 3)) (.seq (seqL (ecT 4)) (.seq (seqL (ecT 5)) (ecT 6)))))))) (seqR (seqR (seqR ecB))))))))) (ecR 4))))):=by kernel_rfl
theorem B3w:Tryz.prog.funcs[15]?=some Tryz.f15:=by kernel_rfl
theorem A5v:Tryz.f15.ntmps=60:=by kernel_rfl
theorem Z4m:B0a ecO5 0=some (.indexAddr 22 (.tmp 16) (.tmp 18),some 20,true):=by kernel_rfl
theorem Z4n:B0a ecO5 1=some (.load 70 (.tmp 20),some 21,true):=by kernel_rfl
theorem Z4p:List.range ecO5.size=0 :: 1 :: ((List.range (ecO5.toList.drop 2).length).map (2+·)++[]):=by kernel_rfl
def eN1:Nat:=4096+1*2^180
def eN2:Nat:=4096+2*2^180
def eN3:Nat:=4096+3*2^180
def eN4:Nat:=4096+4*2^180
def eN5:Nat:=4096+5*2^180
abbrev R0y:=Crf×Crf×Tl×ByteArray×Unit
def H3h(p:R0y):Bool:=decide (p.1.left.size+p.2.2.2.1.size≤1099511627776)
def T1k(pre:StpA→Bool)(g:StpA→Two Crf ByteArray)(tp:ByteArray×Unit→Bool)(td:ByteArray×Unit→Two Tl Bool)(hd:R0y→Bool):Gam:=[(25,S0w pre g),(44,S0c tp td),(40,S0w H3h hd)]
def C2b(t:Tl):Con:=.row 48 ([.int .i64 t.tk,.int .i64 t.mode,.int .i64 t.faults,.int .i64 t.ack,.int .i64 t.err,.int .i64 t.rej,.int .i64 t.q.w,.int .i64 t.q.x,.int .i64 t.q.y,.int .i64 t.q.z,.int .i64 t.d.x,.int .i64 t.d.y,.int .i64 t.d.z].map AV.val)
def ecS(bg:Int)(a:Option Addr)(n c:Nat)(cr:Crf)(tk i:Int)(lo:Nat)(tm:List (Nat×AV))(H:Hp):St:=gSt 60 ([(1,.func 40 [] []),(2,.ptr 4096 0),(4,.val (.bool false)),(5,.ptr eN1 0),(6,.val (.int .i64 tk)),(16,.val (.slice a n c)),(17,.val (.int .i64 n)),(18,.val (.int .i64 i))]++tm) ([(4096,D1v bg a n c),(eN1,.row 44 (C0x cr))]++H) lo
def ecF(bg:Int)(a:Option Addr)(n c:Nat)(cr:Crf)(tk i k:Int)(d:ByteArray):St:=ecS bg a n c cr tk i eN3 [(8,.ptr eN2 0)] [(eN2,.row 70 [.val (.int .i64 k),.val (.string d)])]
def ecG(bg:Int)(a:Option Addr)(n c:Nat)(cr:Crf)(tk i k:Int)(d:ByteArray)(nx:Crf)(s:ByteArray):St:=ecS bg a n c cr tk i eN4 [(8,.ptr eN2 0),(9,.ptr eN3 0),(10,.val (.string s))] [(eN2,.row 70 [.val (.int .i64 k),.val (.string d)]),(eN3,.row 44 (C0x nx))]
def ecH(bg:Int)(a:Option Addr)(n c:Nat)(cr:Crf)(tk i k:Int)(d:ByteArray)(nx:Crf)(t:Tl)(ok:Bool):St:=ecS bg a n c cr tk i eN5 [(8,.ptr eN2 0),(9,.ptr eN3 0),(11,.ptr eN4 0),(12,.val (.bool ok))] [(eN2,.row 70 [.val (.int .i64 k),.val (.string d)]),(eN3,.row 44 (C0x nx)),(eN4,C2b t)]
def ecV(b:Bool)(lo:Nat):St:=gSt 60 [(4,.val (.bool b))] [] lo
abbrev EcK:List Nat:=[4096,eN1]
abbrev EcT:List Nat:=[1,2,4,5,6,16,17,18]
section
variable (pre:StpA→Bool) (g:StpA→Two Crf ByteArray) (tp:ByteArray×Unit→Bool) (td:ByteArray×Unit→Two Tl Bool) (hd:R0y→Bool)
variable (bg tk i k:Int) (a:Option Addr) (ad:Addr) (n c:Nat) (cr nx:Crf) (t:Bool) (tl:Tl) (d s:ByteArray)
noncomputable abbrev R0g(pre:StpA→Bool)(g:StpA→Two Crf ByteArray)(tp:ByteArray×Unit→Bool)(td:ByteArray×Unit→Two Tl Bool)(hd:R0y→Bool)(c:Code)(s:St)(ks ts:List Nat):Option (Ex×St):=gRun Tryz.prog {gam:=T1k pre g tp td hd} 60 c s ks ts
def ecA(bg:Int)(a:Option Addr)(n c:Nat):St:=B0t 60 [.val (.agg #[.int .i64 bg,.slice a n c]),.func 40 [] []] []
theorem Z4t:R0g pre g tp td hd (ecL 0) (ecA bg a n c) [4096] [1,2,4]=some (.normal,gSt 60 [(1,.func 40 [] []),(2,.ptr 4096 0),(4,.val (.bool false))] [(4096,D1v bg a n c)] eN1):=by kernel_rfl
theorem Z4u:R0g pre g tp td hd (ecL 1) (gSt 60 [(1,.func 40 [] []),(2,.ptr 4096 0),(4,.val (.bool false))] [(4096,D1v bg a n c)] eN1) EcK [1,2,4,5]=some (.normal,gSt 60 [(1,.func 40 [] []),(2,.ptr 4096 0),(4,.val (.bool false)),(5,.ptr eN1 0)] [(4096,D1v bg a n c),(eN1,.row 44 (C0x crf0))] eN2):=by kernel_rfl
theorem Z4v:R0g pre g tp td hd (ecL 2) (gSt 60 [(1,.func 40 [] []),(2,.ptr 4096 0),(4,.val (.bool false)),(5,.ptr eN1 0)] [(4096,D1v bg a n c),(eN1,.row 44 (C0x crf0))] eN2) EcK [1,2,4,5,6]=some (.normal,gSt 60 [(1,.func 40 [] []),(2,.ptr 4096 0),(4,.val (.bool false)),(5,.ptr eN1 0),(6,.val (.int .i64 bg))] [(4096,D1v bg a n c),(eN1,.row 44 (C0x crf0))] eN2):=by kernel_rfl
theorem Z4w:R0g pre g tp td hd (seqL (ecL 3)) (gSt 60 [(1,.func 40 [] []),(2,.ptr 4096 0),(4,.val (.bool false)),(5,.ptr eN1 0),(6,.val (.int .i64 bg))] [(4096,D1v bg a n c),(eN1,.row 44 (C0x crf0))] eN2) EcK EcT=some (.normal,ecS bg a n c crf0 bg 0 eN2 [] []):=by kernel_rfl
theorem Z3b:R0g pre g tp td hd (seqL ecB) (ecS bg a n c cr tk i eN2 [] []) EcK (19 :: EcT)=some (.normal,ecS bg a n c cr tk i eN2 [(19,.val (.bool (decide (i<n))))] []):=by kernel_rfl
theorem Z3e:R0g pre g tp td hd (seqL (seqR ecB)) (ecS bg a n c cr tk i eN2 [(19,.val (.bool t))] []) EcK EcT=bif t then some (.normal,ecS bg a n c cr tk i eN2 [] []) else some (.exit 0,ecS bg a n c cr tk i eN2 [] []):=by kernel_rfl
theorem Z4x:B0j Tryz.prog (B0v Tryz.prog {gam:=T1k pre g tp td hd} 4 (Bool×St)) (B0p (T1k pre g tp td hd)) 60 ecO5 (ecO5.toList.drop 2) {ecS bg a n c cr tk i eN2 [] []with tmps:=((ecS bg a n c cr tk i eN2 [] []).tmps.set 20 (.val (.pointer (some ad)))).set 21 (.val (.agg (List.toArray [.int .i64 k,.string d])))} [] (C0p [4096,eN1,eN2] (E0d 60 (8 :: EcT)))=some (true,ecF bg a n c cr tk i k d):=by kernel_rfl
end
def W3k(k:Int):Int:=if 1000000<(if -1000000>k then -1000000 else k) then 1000000 else (if -1000000>k then -1000000 else k)
def A0m(tk k:Int):Int:=IntKind.i64.wrap (tk+W3k k)
def eN6:Nat:=4096+6*2^180
abbrev EcF:List Nat:=[4096,eN1,eN2]
section
variable (pre:StpA→Bool) (g:StpA→Two Crf ByteArray) (tp:ByteArray×Unit→Bool) (td:ByteArray×Unit→Two Tl Bool) (hd:R0y→Bool)
variable (bg tk i k:Int) (a:Option Addr) (n c:Nat) (cr nx:Crf) (t:Bool) (tl:Tl) (d s:ByteArray)
def Z4q(bg:Int)(a:Option Addr)(n c:Nat)(cr:Crf)(tk i:Int)(lo:Nat):Option (Ex×St):=some (.ret,ecS bg a n c cr tk i lo [] [])
theorem Z4y:R0g pre g tp td hd (seqL (ecT 1)) (ecF bg a n c cr tk i k d) EcF (8 :: EcT)=some (.normal,ecF bg a n c cr (A0m tk k) i k d):=by kernel_rfl
theorem Z4z:R0g pre g tp td hd (seqL (ecT 2)) (ecF bg a n c cr tk i k d) [4096,eN1,eN2,eN3] (8 :: 9 :: 10 :: EcT)=bif pre (cr,tk,d,()) then some (.normal,ecG bg a n c cr tk i k d (g (cr,tk,d,())).a (g (cr,tk,d,())).b) else none:=by kernel_rfl
theorem Z3c:R0g pre g tp td hd (seqL (ecT 3)) (ecG bg a n c cr tk i k d nx s) [4096,eN1] EcT=bif s.toList==(⟨#[]⟩:ByteArray).toList then bif !crfK nx cr then Z4q bg a n c cr tk i eN4 else some (.exit 1,ecS bg a n c cr tk i eN4 [] []) else some (.normal,ecS bg a n c cr tk i eN4 [] []):=by kernel_rfl
theorem Z3d:R0g pre g tp td hd (seqL (ecT 3)) (ecG bg a n c cr tk i k d nx s) [4096,eN1,eN2,eN3] (8 :: 9 :: 10 :: EcT)=bif s.toList==(⟨#[]⟩:ByteArray).toList then bif !crfK nx cr then some (.ret,ecG bg a n c cr tk i k d nx s) else some (.exit 1,ecG bg a n c cr tk i k d nx s) else some (.normal,ecG bg a n c cr tk i k d nx s):=by kernel_rfl
theorem A5a:R0g pre g tp td hd (seqL (ecT 4)) (ecG bg a n c cr tk i k d nx s) [4096,eN1,eN2,eN3,eN4] (8 :: 9 :: 11 :: 12 :: EcT)=bif tp (s,()) then some (.normal,ecH bg a n c cr tk i k d nx (td (s,())).a (td (s,())).b) else none:=by kernel_rfl
theorem Y3x:R0g pre g tp td hd (seqL (ecT 5)) (ecH bg a n c cr tk i k d nx tl t) [4096,eN1,eN2,eN3] (8 :: 9 :: EcT)=bif !t then some (.ret,ecS bg a n c cr tk i eN6 [(8,.ptr eN2 0),(9,.ptr eN3 0)] [(eN2,.row 70 [.val (.int .i64 k),.val (.string d)]),(eN3,.row 44 (C0x nx))]) else bif H3h (cr,nx,tl,d,()) then (bif !hd (cr,nx,tl,d,()) then some (.ret,ecS bg a n c cr tk i eN6 [(8,.ptr eN2 0),(9,.ptr eN3 0)] [(eN2,.row 70 [.val (.int .i64 k),.val (.string d)]),(eN3,.row 44 (C0x nx))]) else some (.normal,ecS bg a n c cr tk i eN6 [(8,.ptr eN2 0),(9,.ptr eN3 0)] [(eN2,.row 70 [.val (.int .i64 k),.val (.string d)]),(eN3,.row 44 (C0x nx))])) else none:=by kernel_rfl
theorem Y3y:R0g pre g tp td hd (ecT 6) (ecS bg a n c cr tk i eN6 [(8,.ptr eN2 0),(9,.ptr eN3 0)] [(eN2,.row 70 [.val (.int .i64 k),.val (.string d)]),(eN3,.row 44 (C0x nx))]) EcK EcT=some (.normal,ecS bg a n c nx tk i eN6 [] []):=by kernel_rfl
theorem Y3z:R0g pre g tp td hd (seqR (seqR (seqR ecB))) (ecS bg a n c cr tk i eN2 [] []) EcK EcT=some (.normal,ecS bg a n c cr tk (IntKind.i64.wrap (i+1)) eN2 [] []):=by kernel_rfl
theorem Z3a:R0g pre g tp td hd (ecR 4) (ecS bg a n c cr tk i eN2 [] []) [] [4]=some (.ret,ecV true eN2):=by kernel_rfl
theorem Z3g(b:Bool)(lo:Nat):resA Tryz.prog (ecV b lo) Tryz.f15.results.toList=some [.val (.bool b)]:=by kernel_rfl
theorem X1k(lo:Nat):A0p eN2 (ecS bg a n c cr tk i lo [] [])=true:=by kernel_rfl
theorem E2k:(ecS bg a n c cr tk i eN2 [] []).tmps.length=60:=by kernel_rfl
end
abbrev BI:=ByteArray×Int×Unit
def srP(p:BI):Bool:=bif decide (0≤p.2.1∧p.2.1<(p.1.size:Int)) then decide (0≤IntKind.i64.wrap (p.2.1+1)∧IntKind.i64.wrap (p.2.1+1)<(p.1.size:Int)) else false
def srC(p:BI):Int:=IntKind.i64.wrap (IntKind.i64.wrap (IntKind.i64.wrap ((p.1.data.toList.getD p.2.1.toNat 0).toNat:Int)*256)+IntKind.i64.wrap ((p.1.data.toList.getD (IntKind.i64.wrap (p.2.1+1)).toNat 0).toNat:Int))
def srG(p:BI):Int:=bif decide (srC p≥32768) then IntKind.i64.wrap (srC p-65536) else srC p
theorem B2v(d:ByteArray)(i:Int):fnSum Tryz.prog {gam:=[]} [] 20 130 [.val (.string d),.val (.int .i64 i)] []=bif decide (0≤i∧i<(d.size:Int)) then bif decide (0≤IntKind.i64.wrap (i+1)∧IntKind.i64.wrap (i+1)<(d.size:Int)) then some (.val (.int .i64 (srC (d,i,()))),[]) else none else none:=by kernel_rfl
theorem P1p:A0h Tryz.prog 130 (S0w srP srC):=by
 refine K0a (E:={gam:=[]}) GamOk.nil fun args cs r cs' hs=>?_
 obtain ⟨⟨d,i,_⟩,hp,rfl,rfl,rfl,rfl⟩:=Z0n hs
 refine ⟨by simp,20,(B2v d i).trans ?_⟩
 unfold srP at hp
 revert hp
 dsimp only
 cases decide (0≤i∧i<(d.size:Int)) with
 | false=>intro h;cases h
 | true =>
  cases decide (0≤IntKind.i64.wrap (i+1)∧IntKind.i64.wrap (i+1)<(d.size:Int)) with
  | false=>intro h;cases h
  | true=>intro _;rfl
theorem W1g(pr:BI→Bool)(ct:BI→Int)(d:ByteArray)(i:Int):fnSum Tryz.prog {gam:=[(130,S0w pr ct)]} [] 20 129 [.val (.string d),.val (.int .i64 i)] []=bif pr (d,i,()) then bif decide (ct (d,i,())≥32768) then some (.val (.int .i64 (IntKind.i64.wrap (ct (d,i,())-65536))),[]) else some (.val (.int .i64 (ct (d,i,()))),[]) else none:=by kernel_rfl
theorem A2z:A0h Tryz.prog 129 (S0w srP srG):=by
 refine K0a (E:={gam:=[(130,S0w srP srC)]}) (.cons P1p .nil) fun args cs r cs' hs=>?_
 obtain ⟨⟨d,i,_⟩,hp,rfl,rfl,rfl,rfl⟩:=Z0n hs
 refine ⟨by simp,20,(W1g srP srC d i).trans ?_⟩
 rw[hp,cond_true]
 unfold srG
 cases decide (srC (d,i,())≥32768)<;>rfl
structure U0h where
 ct:BI→Int
 sg:BI→Int
 rt:Int×Unit→Bool
 pt:Bool→Int×Int×Int×Unit→Int×Bool
 vn:Bool→V3×Unit→Int×Bool
 vu:Bool→V3×Unit→V3×Bool
def A1g(F:U0h):Gam:=[(130,S0w srP F.ct),(129,S0w srP F.sg),(94,S0 F.rt),(82,S 59 F.pt),(100,S 59 F.vn),(68,S 59 F.vu)]
theorem R2c(r:Rdg)(t:Int):fnSum Tryz.prog {gam:=[]} [] 20 43 [.val (Cod.enc r),.val (.int .i64 t)] []=bif decide (r.tk>t) then some (.val (.bool false),[]) else some (.val (.bool (decide (IntKind.u64.wrap (IntKind.u64.wrap t-IntKind.u64.wrap r.tk)≤500))),[]):=by kernel_rfl
def ds18(c0 c1 c2 c3 c4 c5 c6 c7 c8 c9 ca cb cc cd ce cf cg ch:UInt8):ByteArray:=⟨#[c0,c1,c2,c3,c4,c5,c6,c7,c8,c9,ca,cb,cc,cd,ce,cf,cg,ch]⟩
def srT(l:List UInt8):Int:=l.foldl (fun z b=>IntKind.i64.wrap (IntKind.i64.wrap (z*256)+IntKind.i64.wrap ((b.toNat:Nat):Int))) 0
def rdNo:Two Rdg Bool:=⟨⟨0,0,⟨0,0,0⟩⟩,false⟩
def srE(x:Two Rdg Bool):Option (AV×List Con):=some (.val (Cod.enc x),[])
def srW(n:Int):Int:=IntKind.i64.wrap (n*33554432)
def srGy(F:U0h)(z:Int)(d:ByteArray):Option (AV×List Con) :=
 bif !F.rt (z,()) then srE rdNo else bif decide (F.sg (d,6,())>30000) then srE rdNo else bif decide (F.sg (d,6,()) < -30000) then srE rdNo else bif decide (F.sg (d,8,())>30000) then srE rdNo else bif decide (F.sg (d,8,()) < -30000) then srE rdNo else
 bif decide (F.sg (d,10,())>30000) then srE rdNo else bif decide (F.sg (d,10,()) < -30000) then srE rdNo else srE ⟨⟨1,z,⟨srW (F.sg (d,6,())),srW (F.sg (d,8,())),srW (F.sg (d,10,()))⟩⟩,true⟩
def srP1(F:U0h)(d:ByteArray):Int×Bool:=F.pt false (1099511627776,F.sg (d,6,()),100,())
def srP2(F:U0h)(d:ByteArray):Int×Bool:=F.pt (srP1 F d).2 (1099511627776,F.sg (d,8,()),100,())
def srP3(F:U0h)(d:ByteArray):Int×Bool:=F.pt (srP2 F d).2 (1099511627776,F.sg (d,10,()),100,())
def srV(F:U0h)(d:ByteArray):V3:=⟨(srP1 F d).1,(srP2 F d).1,(srP3 F d).1⟩
def srMa(F:U0h)(z:Int)(d:ByteArray):Option (AV×List Con) :=
 bif !F.rt (z,()) then srE rdNo else bif decide ((F.vn (srP3 F d).2 (srV F d,())).1<1099511627776) then srE rdNo else bif decide ((F.vn (srP3 F d).2 (srV F d,())).1>131941395333120) then srE rdNo else srE ⟨⟨3,z,srV F d⟩,true⟩
def srU(F:U0h)(d:ByteArray)(i:Int):Int:=IntKind.i64.wrap (IntKind.i64.wrap (F.ct (d,i,())-F.ct (d,i+2,()))*16777216)
def srX(F:U0h)(d:ByteArray):V3:=⟨srU F d 6,srU F d 10,srU F d 14⟩
def srSx(F:U0h)(z:Int)(d:ByteArray):Option (AV×List Con):=bif (F.vu false (srX F d,())).2 then srE rdNo else srE ⟨⟨2,z,(F.vu false (srX F d,())).1⟩,true⟩
def srSu(F:U0h)(z:Int)(d:ByteArray):Option (AV×List Con) :=
 bif !F.rt (z,()) then srE rdNo else bif decide (F.ct (d,6,())≥2000) then srSx F z d else bif decide (F.ct (d,8,())≥2000) then srSx F z d else bif decide (F.ct (d,10,())≥2000) then srSx F z d else bif decide (F.ct (d,12,())≥2000) then srSx F z d else
 bif decide (F.ct (d,14,())≥2000) then srSx F z d else bif !decide (F.ct (d,16,())≥2000) then srE rdNo else srSx F z d
section
variable (F:U0h) (c0 c1 c2 c3 c4 c5 c6 c7 c8 c9 ca cb cc cd ce cf cg ch:UInt8) (k n:Int) (d:ByteArray)
theorem M5h:fnSum Tryz.prog {gam:=A1g F} [] 20 42 [.val (Cod.enc (Fr.mk 1 (ds12 c0 c1 c2 c3 c4 c5 c6 c7 c8 c9 ca cb)))] []=srGy F (srT [c0,c1,c2,c3,c4,c5]) (ds12 c0 c1 c2 c3 c4 c5 c6 c7 c8 c9 ca cb):=by kernel_rfl
theorem M5k:fnSum Tryz.prog {gam:=A1g F} [] 20 42 [.val (Cod.enc (Fr.mk 3 (ds12 c0 c1 c2 c3 c4 c5 c6 c7 c8 c9 ca cb)))] []=srMa F (srT [c0,c1,c2,c3,c4,c5]) (ds12 c0 c1 c2 c3 c4 c5 c6 c7 c8 c9 ca cb):=by kernel_rfl
theorem M5t:fnSum Tryz.prog {gam:=A1g F} [] 20 42 [.val (Cod.enc (Fr.mk 2 (ds18 c0 c1 c2 c3 c4 c5 c6 c7 c8 c9 ca cb cc cd ce cf cg ch)))] []=srSu F (srT [c0,c1,c2,c3,c4,c5]) (ds18 c0 c1 c2 c3 c4 c5 c6 c7 c8 c9 ca cb cc cd ce cf cg ch):=by kernel_rfl
noncomputable def srR:Nat→Code
 | 0=>Tryz.f42.body.getD .skip
 | k+1=>seqR (srR k)
noncomputable def srL(k:Nat):Code:=seqL (srR k)
theorem M5j:Tryz.f42.body=some (.seq (srL 0) (.seq (srL 1) (.seq (srL 2) (.seq (srL 3) (.seq (srL 4) (srR 5)))))):=by kernel_rfl
theorem sr_N:Tryz.f42.ntmps=164:=by kernel_rfl
theorem P4g:Tryz.prog.funcs[42]?=some Tryz.f42:=by kernel_rfl
def srS(k:Int)(d:ByteArray)(tm:List (Nat×AV)):St:=gSt 164 ([(1,.ptr 4096 0),(2,.ptr rN1 0),(3,.val (.bool false)),(4,.ptr rN2 0)]++tm) [(4096,fRow k d),(rN1,gRow 0 0 0 0 0),(rN2,gRow 0 0 0 0 0)] rN3
noncomputable abbrev B2w(F:U0h)(c:Code)(s:St)(ks ts:List Nat):Option (Ex×St):=gRun Tryz.prog {gam:=A1g F} 164 c s ks ts
theorem M5m:B2w F (srL 0) (B0t 164 [.val (Cod.enc (Fr.mk k d))] []) [4096,rN1] [1,2,3]=some (.normal,gSt 164 [(1,.ptr 4096 0),(2,.ptr rN1 0),(3,.val (.bool false))] [(4096,fRow k d),(rN1,gRow 0 0 0 0 0)] rN2):=by kernel_rfl
theorem M5n:B2w F (srL 1) (gSt 164 [(1,.ptr 4096 0),(2,.ptr rN1 0),(3,.val (.bool false))] [(4096,fRow k d),(rN1,gRow 0 0 0 0 0)] rN2) [4096,rN1,rN2] [1,2,3,4]=some (.normal,srS k d []):=by kernel_rfl
theorem M5p:B2w F (srL 2) (srS k d []) [4096,rN1,rN2] [1,2,3,4,5]=some (.normal,srS k d [(5,.val (.int .i64 12))]):=by kernel_rfl
theorem M5q:B2w F (srL 3) (srS k d [(5,.val (.int .i64 12))]) [4096,rN1,rN2] [1,2,3,4,5]=bif k==2 then some (.normal,srS k d [(5,.val (.int .i64 18))]) else some (.normal,srS k d [(5,.val (.int .i64 12))]):=by kernel_rfl
theorem M5r:B2w F (srL 4) (srS k d [(5,.val (.int .i64 n))]) [4096,rN1,rN2] [1,2,3,4,5]=bif decide (k<1) then some (.ret,srS k d [(5,.val (.int .i64 n))]) else bif decide (k>3) then some (.ret,srS k d [(5,.val (.int .i64 n))]) else bif (d.size:Int) != n then some (.ret,srS k d [(5,.val (.int .i64 n))]) else some (.normal,srS k d [(5,.val (.int .i64 n))]):=by kernel_rfl
theorem P4h:resA Tryz.prog (srS k d [(5,.val (.int .i64 n))]) Tryz.f42.results.toList=some [.val (Cod.enc (Rdg.mk 0 0 ⟨0,0,0⟩)),.val (.bool false)]:=by kernel_rfl
end
theorem C3q(a b:Nat)(hb:b<256):a*256 ||| b=a*256+b:=by
 have h:=Nat.shiftLeft_add_eq_or_of_lt (i:=8) (b:=b) (by simpa using hb) a
 rw[Nat.shiftLeft_eq]at h
 simpa using h.symm
theorem u16w(x:Int):IntKind.u16.wrap x=x % 65536:=by simp[IntKind.wrap,IntKind.bits,IntKind.signed]
theorem V0x(a b:UInt8):D1e (a.toNat:Int) (b.toNat:Int)=(a.toNat:Int)*256+(b.toNat:Int):=by
 have ha:=a.toNat_lt
 have hb:=b.toNat_lt
 have e1:IntKind.u16.wrap (IntKind.u16.wrap (a.toNat:Int)*2^8)=((a.toNat*256:Nat):Int):=by rw[u16w,u16w];omega
 have e2:IntKind.u16.wrap (b.toNat:Int)=((b.toNat:Nat):Int):=by rw[u16w];omega
 unfold D1e
 rw[e1,e2]
 show IntKind.u16.wrap ((BitVec.ofInt 16 ((a.toNat*256:Nat):Int) ||| BitVec.ofInt 16 ((b.toNat:Nat):Int)).toNat:Int)=_
 rw[BitVec.ofInt_natCast,BitVec.ofInt_natCast,BitVec.toNat_or,BitVec.toNat_ofNat,BitVec.toNat_ofNat,Nat.mod_eq_of_lt (by omega),Nat.mod_eq_of_lt (by omega),C3q _ _ (by omega),u16w]
 omega
theorem L4w(z:Int)(b:UInt8)(h0:0≤z)(h1:z<1099511627776):tkF z (b.toNat:Int)=z*256+(b.toNat:Int):=by
 obtain ⟨n,rfl⟩:∃n:Nat,z=n:=⟨z.toNat,by omega⟩
 have hb:=b.toNat_lt
 have e1:IntKind.i64.wrap ((n:Int)*2^8)=((n*256:Nat):Int):=by rw[C0k];omega
 have e2:IntKind.i64.wrap (b.toNat:Int)=((b.toNat:Nat):Int):=by rw[C0k];omega
 unfold tkF orV
 rw[e1,e2]
 show IntKind.i64.wrap ((BitVec.ofInt 64 ((n*256:Nat):Int) ||| BitVec.ofInt 64 ((b.toNat:Nat):Int)).toNat:Int)=_
 rw[BitVec.ofInt_natCast,BitVec.ofInt_natCast,BitVec.toNat_or,BitVec.toNat_ofNat,BitVec.toNat_ofNat,Nat.mod_eq_of_lt (by omega),Nat.mod_eq_of_lt (by omega),C3q _ _ (by omega),C0k]
 omega
theorem Z2y(z:Int)(b:UInt8)(h0:0≤z)(h1:z<1099511627776):IntKind.i64.wrap (IntKind.i64.wrap (z*256)+IntKind.i64.wrap ((b.toNat:Nat):Int))=z*256+(b.toNat:Int):=by
 have hb:=b.toNat_lt
 have e1:IntKind.i64.wrap (z*256)=z*256:=by rw[C0k];omega
 have e2:IntKind.i64.wrap ((b.toNat:Nat):Int)=((b.toNat:Nat):Int):=by rw[C0k];omega
 rw[e1,e2,C0k]
 omega
theorem N1m:∀(l:List UInt8) (z M:Int),0≤z→z<M→M*256^l.length≤281474976710656→l.foldl (fun z b=>IntKind.i64.wrap (IntKind.i64.wrap (z*256)+IntKind.i64.wrap ((b.toNat:Nat):Int))) z=l.foldl (fun z b=>tkF z b.toNat) z
 | [],_,_,_,_,_=>rfl
 | b :: l,z,M,h0,h1,h2=>by
  have hb:=b.toNat_lt
  have hp:(1:Int)≤256^l.length:=by
   have:0<(256:Int)^l.length:=Int.pow_pos (by omega)
   omega
  have h3:M*256*256^l.length≤281474976710656:=by
   have e:(256:Int)^(b :: l).length=256^l.length*256:=by rw[List.length_cons,Int.pow_succ]
   rw[e]at h2
   have:M*256*256^l.length=M*(256^l.length*256):=by rw[Int.mul_assoc,Int.mul_comm 256]
   rw[this];exact h2
  have h4:M*256≤281474976710656:=by
   have :=Int.mul_le_mul_of_nonneg_left hp (show 0≤M*256 by omega)
   omega
  simp only[List.foldl_cons]
  rw[Z2y z b h0 (by omega),L4w z b h0 (by omega)]
  exact N1m l (z*256+b.toNat) (M*256) (by omega) (by omega) h3
theorem R2d(c0 c1 c2 c3 c4 c5:UInt8):srT [c0,c1,c2,c3,c4,c5]=[c0,c1,c2,c3,c4,c5].foldl (fun z b=>tkF z b.toNat) 0:=N1m _ 0 1 (by omega) (by omega) (by show (1:Int)*256^6≤281474976710656;decide)
theorem i16w(x:Int)(h0:0≤x)(h1:x<65536):IntKind.i16.wrap x=if x≥32768 then x-65536 else x:=by
 have:IntKind.i16.wrap x=if x % 65536≥32768 then x % 65536-65536 else x % 65536:=by simp[IntKind.wrap,IntKind.bits,IntKind.signed]
 rw[this]
 split<;>split<;>omega
theorem V1w(a b:UInt8):IntKind.i64.wrap (IntKind.i64.wrap (IntKind.i64.wrap (a.toNat:Int)*256)+IntKind.i64.wrap (b.toNat:Int))=(a.toNat:Int)*256+(b.toNat:Int):=by
 have ha:=a.toNat_lt
 have hb:=b.toNat_lt
 have e1:IntKind.i64.wrap (a.toNat:Int)=(a.toNat:Int):=by rw[C0k];omega
 have e2:IntKind.i64.wrap ((a.toNat:Int)*256)=(a.toNat:Int)*256:=by rw[C0k];omega
 have e3:IntKind.i64.wrap (b.toNat:Int)=(b.toNat:Int):=by rw[C0k];omega
 rw[e1,e2,e3,C0k]
 omega
theorem Q3v(a b:UInt8):(bif decide (IntKind.i64.wrap (IntKind.i64.wrap (IntKind.i64.wrap (a.toNat:Int)*256)+IntKind.i64.wrap (b.toNat:Int))≥32768) then IntKind.i64.wrap (IntKind.i64.wrap (IntKind.i64.wrap (IntKind.i64.wrap (a.toNat:Int)*256)+IntKind.i64.wrap (b.toNat:Int))-65536) else IntKind.i64.wrap (IntKind.i64.wrap (IntKind.i64.wrap (a.toNat:Int)*256)+IntKind.i64.wrap (b.toNat:Int)))=IntKind.i64.wrap (IntKind.i16.wrap (D1e (a.toNat:Int) (b.toNat:Int))):=by
 have ha:=a.toNat_lt
 have hb:=b.toNat_lt
 rw[V1w,V0x,i16w _ (by omega) (by omega)]
 by_cases h:(a.toNat:Int)*256+(b.toNat:Int)≥32768
 ·rw[decide_eq_true h,cond_true,if_pos h]
 ·rw[decide_eq_false h,cond_false,if_neg h,C0k]
  omega
def SR:U0h:={ct:=srC,sg:=srG,rt:=fun p=>A0z p.1,pt:=op3 G0m,vn:=E0t opsF,vu:=N0q opsF}
theorem A4w:GamOk Tryz.prog (A1g SR):=.cons P1p (.cons A2z (.cons ok41 (.cons K4k (.cons ok67 (.cons ok69 .nil)))))
section
variable (c0 c1 c2 c3 c4 c5 c6 c7 c8 c9 ca cb cc cd ce cf cg ch:UInt8)
theorem D3g:G0y (ds12 c0 c1 c2 c3 c4 c5 c6 c7 c8 c9 ca cb)=[c0,c1,c2,c3,c4,c5].foldl (fun z b=>tkF z b.toNat) 0:=by kernel_rfl
theorem P4x:G0y (ds18 c0 c1 c2 c3 c4 c5 c6 c7 c8 c9 ca cb cc cd ce cf cg ch)=[c0,c1,c2,c3,c4,c5].foldl (fun z b=>tkF z b.toNat) 0:=by kernel_rfl
def gy6(a b:UInt8):Int:=IntKind.i64.wrap (IntKind.i16.wrap (D1e (a.toNat:Int) (b.toNat:Int)))
def gyOk(t:Bool)(n:Int):Bool:=bif t then bif decide (n≤30000) then decide (n≥-30000) else false else false
theorem M4p:rdT4 RD 1 (ds12 c0 c1 c2 c3 c4 c5 c6 c7 c8 c9 ca cb)=⟨⟨IntKind.i64.wrap (gy6 c6 c7*2^25),IntKind.i64.wrap (gy6 c8 c9*2^25),IntKind.i64.wrap (gy6 ca cb*2^25)⟩,gyOk (gyOk (gyOk (A0z (G0y (ds12 c0 c1 c2 c3 c4 c5 c6 c7 c8 c9 ca cb))) (gy6 c6 c7)) (gy6 c8 c9)) (gy6 ca cb),false,false⟩:=by kernel_rfl
theorem sg12:SR.sg (ds12 c0 c1 c2 c3 c4 c5 c6 c7 c8 c9 ca cb,6,())=gy6 c6 c7∧SR.sg (ds12 c0 c1 c2 c3 c4 c5 c6 c7 c8 c9 ca cb,8,())=gy6 c8 c9∧SR.sg (ds12 c0 c1 c2 c3 c4 c5 c6 c7 c8 c9 ca cb,10,())=gy6 ca cb:=⟨Q3v c6 c7,Q3v c8 c9,Q3v ca cb⟩
end
section
variable (c0 c1 c2 c3 c4 c5 c6 c7 c8 c9 ca cb cc cd ce cf cg ch:UInt8)
theorem P2u(k:Int)(hk:k=1∨k=3):P0h RD k (ds12 c0 c1 c2 c3 c4 c5 c6 c7 c8 c9 ca cb)=false:=by
 rcases hk with rfl | rfl<;>kernel_rfl
theorem P3y:P0h RD 2 (ds18 c0 c1 c2 c3 c4 c5 c6 c7 c8 c9 ca cb cc cd ce cf cg ch)=false:=by kernel_rfl
theorem V0n(k:Int)(d:ByteArray)(hb:P0h RD k d=false):C0j (⟨k,d⟩,())=bif !(rdT4 RD k d).ok then rdNo else ⟨⟨k,G0y d,(rdT4 RD k d).v⟩,true⟩:=by
 unfold C0j Q1q
 dsimp only
 rw[hb]
 rfl
theorem Q3g:srGy SR (srT [c0,c1,c2,c3,c4,c5]) (ds12 c0 c1 c2 c3 c4 c5 c6 c7 c8 c9 ca cb)=srE (C0j (⟨1,ds12 c0 c1 c2 c3 c4 c5 c6 c7 c8 c9 ca cb⟩,())):=by
 rw[V0n _ _ (P2u c0 c1 c2 c3 c4 c5 c6 c7 c8 c9 ca cb 1 (.inl rfl)),M4p,R2d,← D3g c0 c1 c2 c3 c4 c5 c6 c7 c8 c9 ca cb]
 obtain ⟨s1,s2,s3⟩:=sg12 c0 c1 c2 c3 c4 c5 c6 c7 c8 c9 ca cb
 unfold srGy
 rw[s1,s2,s3]
 dsimp only
 have hr:SR.rt (G0y (ds12 c0 c1 c2 c3 c4 c5 c6 c7 c8 c9 ca cb),())=A0z (G0y (ds12 c0 c1 c2 c3 c4 c5 c6 c7 c8 c9 ca cb)):=rfl
 rw[hr]
 generalize G0y (ds12 c0 c1 c2 c3 c4 c5 c6 c7 c8 c9 ca cb)=z
 generalize gy6 c6 c7=n0
 generalize gy6 c8 c9=n1
 generalize gy6 ca cb=n2
 have key:∀(t:Bool) (n:Int) (A:Option (AV×List Con)),(bif !t then srE rdNo else bif decide (n>30000) then srE rdNo else bif decide (n < -30000) then srE rdNo else A)=bif !gyOk t n then srE rdNo else A:=by
  intro t n A
  unfold gyOk
  cases t
  ·rfl
  ·by_cases h1:n>30000
   ·rw[decide_eq_true h1,decide_eq_false (by omega:¬ n≤30000)];rfl
   ·rw[decide_eq_false h1,decide_eq_true (by omega:n≤30000)]
    by_cases h2:n < -30000
    ·rw[decide_eq_true h2,decide_eq_false (by omega:¬ n≥-30000)];rfl
    ·rw[decide_eq_false h2,decide_eq_true (by omega:n≥-30000)];rfl
 have k2:∀(t:Bool) (n:Int) (A:Option (AV×List Con)),(bif !t then srE rdNo else A)=(bif !t then srE rdNo else A):=fun _ _ _=>rfl
 have go:∀(A:Option (AV×List Con)),(bif !A0z z then srE rdNo else bif decide (n0>30000) then srE rdNo else bif decide (n0 < -30000) then srE rdNo else bif decide (n1>30000) then srE rdNo else bif decide (n1 < -30000) then srE rdNo else bif decide (n2>30000) then srE rdNo else bif decide (n2 < -30000) then srE rdNo else A)=bif !gyOk (gyOk (gyOk (A0z z) n0) n1) n2 then srE rdNo else A:=by
  intro A
  rw[key]
  rw[show (bif !gyOk (A0z z) n0 then srE rdNo else bif decide (n1>30000) then srE rdNo else bif decide (n1 < -30000) then srE rdNo else bif decide (n2>30000) then srE rdNo else bif decide (n2 < -30000) then srE rdNo else A)=bif !gyOk (gyOk (A0z z) n0) n1 then srE rdNo else bif decide (n2>30000) then srE rdNo else bif decide (n2 < -30000) then srE rdNo else A from key _ _ _]
  exact key _ _ _
 rw[go]
 cases gyOk (gyOk (gyOk (A0z z) n0) n1) n2<;>rfl
def ma1:Int×Bool:=G0m false 1099511627776 (gy6 c6 c7) 100
def ma2:Int×Bool:=G0m (ma1 c6 c7).2 1099511627776 (gy6 c8 c9) 100
def ma3:Int×Bool:=G0m (ma2 c6 c7 c8 c9).2 1099511627776 (gy6 ca cb) 100
def maV:V3:=⟨(ma1 c6 c7).1,(ma2 c6 c7 c8 c9).1,(ma3 c6 c7 c8 c9 ca cb).1⟩
theorem M4q:rdT4 RD 3 (ds12 c0 c1 c2 c3 c4 c5 c6 c7 c8 c9 ca cb)=⟨maV c6 c7 c8 c9 ca cb,bif A0z (G0y (ds12 c0 c1 c2 c3 c4 c5 c6 c7 c8 c9 ca cb)) then bif decide ((E0t opsF (ma3 c6 c7 c8 c9 ca cb).2 (maV c6 c7 c8 c9 ca cb,())).1≥1099511627776) then decide ((E0t opsF (ma3 c6 c7 c8 c9 ca cb).2 (maV c6 c7 c8 c9 ca cb,())).1≤131941395333120) else false else false,false,(E0t opsF (ma3 c6 c7 c8 c9 ca cb).2 (maV c6 c7 c8 c9 ca cb,())).2⟩:=by kernel_rfl
theorem Q3h:srMa SR (srT [c0,c1,c2,c3,c4,c5]) (ds12 c0 c1 c2 c3 c4 c5 c6 c7 c8 c9 ca cb)=srE (C0j (⟨3,ds12 c0 c1 c2 c3 c4 c5 c6 c7 c8 c9 ca cb⟩,())):=by
 rw[V0n _ _ (P2u c0 c1 c2 c3 c4 c5 c6 c7 c8 c9 ca cb 3 (.inr rfl)),M4q,R2d,← D3g c0 c1 c2 c3 c4 c5 c6 c7 c8 c9 ca cb]
 obtain ⟨s1,s2,s3⟩:=sg12 c0 c1 c2 c3 c4 c5 c6 c7 c8 c9 ca cb
 have e1:srP1 SR (ds12 c0 c1 c2 c3 c4 c5 c6 c7 c8 c9 ca cb)=ma1 c6 c7:=by unfold srP1;rw[s1];rfl
 have e2:srP2 SR (ds12 c0 c1 c2 c3 c4 c5 c6 c7 c8 c9 ca cb)=ma2 c6 c7 c8 c9:=by unfold srP2;rw[s2,e1];rfl
 have e3:srP3 SR (ds12 c0 c1 c2 c3 c4 c5 c6 c7 c8 c9 ca cb)=ma3 c6 c7 c8 c9 ca cb:=by unfold srP3;rw[s3,e2];rfl
 have ev:srV SR (ds12 c0 c1 c2 c3 c4 c5 c6 c7 c8 c9 ca cb)=maV c6 c7 c8 c9 ca cb:=by unfold srV;rw[e1,e2,e3];rfl
 have hr:SR.rt (G0y (ds12 c0 c1 c2 c3 c4 c5 c6 c7 c8 c9 ca cb),())=A0z (G0y (ds12 c0 c1 c2 c3 c4 c5 c6 c7 c8 c9 ca cb)):=rfl
 have hn:SR.vn=E0t opsF:=rfl
 unfold srMa
 rw[e3,ev,hr,hn]
 dsimp only
 generalize G0y (ds12 c0 c1 c2 c3 c4 c5 c6 c7 c8 c9 ca cb)=z
 generalize maV c6 c7 c8 c9 ca cb=v
 generalize (E0t opsF (ma3 c6 c7 c8 c9 ca cb).2 (v,())).1=n
 cases A0z z
 ·rfl
 ·by_cases h1:n<1099511627776
  ·rw[decide_eq_true h1,decide_eq_false (by omega:¬ n≥1099511627776)];rfl
  ·rw[decide_eq_false h1,decide_eq_true (by omega:n≥1099511627776)]
   by_cases h2:n>131941395333120
   ·rw[decide_eq_true h2,decide_eq_false (by omega:¬ n≤131941395333120)];rfl
   ·rw[decide_eq_false h2,decide_eq_true (by omega:n≤131941395333120)];rfl
def K0y(a b:UInt8):Int:=(a.toNat:Int)*256+(b.toNat:Int)
def suD(a b c d:UInt8):Int:=IntKind.i64.wrap (IntKind.i64.wrap (IntKind.i64.wrap (D1e (a.toNat:Int) (b.toNat:Int))-IntKind.i64.wrap (D1e (c.toNat:Int) (d.toNat:Int)))*2^24)
def suL(a b c d:UInt8):Bool:=decide ((if D1e (c.toNat:Int) (d.toNat:Int)>D1e (a.toNat:Int) (b.toNat:Int) then D1e (c.toNat:Int) (d.toNat:Int) else D1e (a.toNat:Int) (b.toNat:Int))≥2000)
def suV:V3:=⟨suD c6 c7 c8 c9,suD ca cb cc cd,suD ce cf cg ch⟩
theorem M4r:rdT4 RD 2 (ds18 c0 c1 c2 c3 c4 c5 c6 c7 c8 c9 ca cb cc cd ce cf cg ch)=⟨(N0q opsF false (suV c6 c7 c8 c9 ca cb cc cd ce cf cg ch,())).1,bif A0z (G0y (ds18 c0 c1 c2 c3 c4 c5 c6 c7 c8 c9 ca cb cc cd ce cf cg ch)) then bif (bif (bif suL c6 c7 c8 c9 then true else suL ca cb cc cd) then true else suL ce cf cg ch) then !(N0q opsF false (suV c6 c7 c8 c9 ca cb cc cd ce cf cg ch,())).2 else false else false,
  (bif (bif suL c6 c7 c8 c9 then true else suL ca cb cc cd) then true else suL ce cf cg ch),(N0q opsF false (suV c6 c7 c8 c9 ca cb cc cd ce cf cg ch,())).2⟩:=by kernel_rfl
theorem ct18:SR.ct (ds18 c0 c1 c2 c3 c4 c5 c6 c7 c8 c9 ca cb cc cd ce cf cg ch,6,())=K0y c6 c7∧SR.ct (ds18 c0 c1 c2 c3 c4 c5 c6 c7 c8 c9 ca cb cc cd ce cf cg ch,8,())=K0y c8 c9∧SR.ct (ds18 c0 c1 c2 c3 c4 c5 c6 c7 c8 c9 ca cb cc cd ce cf cg ch,10,())=K0y ca cb ∧
  SR.ct (ds18 c0 c1 c2 c3 c4 c5 c6 c7 c8 c9 ca cb cc cd ce cf cg ch,12,())=K0y cc cd∧SR.ct (ds18 c0 c1 c2 c3 c4 c5 c6 c7 c8 c9 ca cb cc cd ce cf cg ch,14,())=K0y ce cf∧SR.ct (ds18 c0 c1 c2 c3 c4 c5 c6 c7 c8 c9 ca cb cc cd ce cf cg ch,16,())=K0y cg ch :=
 ⟨V1w c6 c7,V1w c8 c9,V1w ca cb,V1w cc cd,V1w ce cf,V1w cg ch⟩
theorem R3m(a b c d:UInt8):IntKind.i64.wrap (IntKind.i64.wrap (K0y a b-K0y c d)*16777216)=suD a b c d:=by
 have ha:=a.toNat_lt
 have hb:=b.toNat_lt
 have hc:=c.toNat_lt
 have hd:=d.toNat_lt
 unfold suD K0y
 rw[V0x,V0x]
 have e1:IntKind.i64.wrap ((a.toNat:Int)*256+(b.toNat:Int))=(a.toNat:Int)*256+(b.toNat:Int):=by rw[C0k];omega
 have e2:IntKind.i64.wrap ((c.toNat:Int)*256+(d.toNat:Int))=(c.toNat:Int)*256+(d.toNat:Int):=by rw[C0k];omega
 rw[e1,e2]
 rfl
theorem R2j(a b c d:UInt8):suL a b c d=(bif decide (K0y a b≥2000) then true else decide (K0y c d≥2000)):=by
 unfold suL
 rw[V0x,V0x]
 show decide ((if K0y c d>K0y a b then K0y c d else K0y a b)≥2000)=_
 generalize K0y a b=x
 generalize K0y c d=y
 by_cases h:x≥2000
 ·rw[decide_eq_true h,cond_true]
  refine decide_eq_true ?_
  split<;>omega
 ·rw[decide_eq_false h,cond_false]
  by_cases h2:y≥2000
  ·rw[decide_eq_true h2]
   refine decide_eq_true ?_
   split<;>omega
  ·rw[decide_eq_false h2]
   refine decide_eq_false ?_
   split<;>omega
theorem Q3j:srSu SR (srT [c0,c1,c2,c3,c4,c5]) (ds18 c0 c1 c2 c3 c4 c5 c6 c7 c8 c9 ca cb cc cd ce cf cg ch)=srE (C0j (⟨2,ds18 c0 c1 c2 c3 c4 c5 c6 c7 c8 c9 ca cb cc cd ce cf cg ch⟩,())):=by
 rw[V0n _ _ (P3y c0 c1 c2 c3 c4 c5 c6 c7 c8 c9 ca cb cc cd ce cf cg ch),M4r,R2d,← P4x c0 c1 c2 c3 c4 c5 c6 c7 c8 c9 ca cb cc cd ce cf cg ch]
 obtain ⟨s1,s2,s3,s4,s5,s6⟩:=ct18 c0 c1 c2 c3 c4 c5 c6 c7 c8 c9 ca cb cc cd ce cf cg ch
 have ev:srX SR (ds18 c0 c1 c2 c3 c4 c5 c6 c7 c8 c9 ca cb cc cd ce cf cg ch)=suV c6 c7 c8 c9 ca cb cc cd ce cf cg ch:=by
  unfold srX srU suV
  rw[show (6:Int)+2=8 from rfl,show (10:Int)+2=12 from rfl,show (14:Int)+2=16 from rfl,s1,s2,s3,s4,s5,s6,R3m,R3m,R3m]
 have hr:SR.rt (G0y (ds18 c0 c1 c2 c3 c4 c5 c6 c7 c8 c9 ca cb cc cd ce cf cg ch),())=A0z (G0y (ds18 c0 c1 c2 c3 c4 c5 c6 c7 c8 c9 ca cb cc cd ce cf cg ch)):=rfl
 have hn:SR.vu=N0q opsF:=rfl
 unfold srSu srSx
 rw[s1,s2,s3,s4,s5,s6,ev,hr,hn,R2j,R2j,R2j]
 dsimp only
 generalize G0y (ds18 c0 c1 c2 c3 c4 c5 c6 c7 c8 c9 ca cb cc cd ce cf cg ch)=z
 generalize N0q opsF false (suV c6 c7 c8 c9 ca cb cc cd ce cf cg ch,())=u
 obtain ⟨v,f⟩:=u
 cases A0z z<;>cases f<;>cases decide (K0y c6 c7≥2000)<;>cases decide (K0y c8 c9≥2000)<;>cases decide (K0y ca cb≥2000)<;>cases decide (K0y cc cd≥2000)<;>cases decide (K0y ce cf≥2000)<;>cases decide (K0y cg ch≥2000)<;>rfl
end
theorem ba18(s:ByteArray)(h:s.size=18):∃c0 c1 c2 c3 c4 c5 c6 c7 c8 c9 ca cb cc cd ce cf cg ch,s=ds18 c0 c1 c2 c3 c4 c5 c6 c7 c8 c9 ca cb cc cd ce cf cg ch:=by
 obtain ⟨⟨l⟩⟩:=s
 match l,h with
 | [a,b,c,d,e,f,a',b',c',d',e',f',g,h,i,j,k,m],_=>exact ⟨a,b,c,d,e,f,a',b',c',d',e',f',g,h,i,j,k,m,rfl⟩
theorem P4e{k:Int}{d:ByteArray}(hb:P0h RD k d=true):∃n,A0b Tryz.prog 164 (.seq (srL 0) (.seq (srL 1) (.seq (srL 2) (.seq (srL 3) (.seq (srL 4) (srR 5)))))) (B0t 164 [.val (Cod.enc (Fr.mk k d))] []) .ret (srS k d [(5,.val (.int .i64 n))]):=by
 have g:∀{c:Code} {s s1:St} {e:Ex} {ks ts:List Nat},B2w SR c s ks ts=some (e,s1)→A0b Tryz.prog 164 c s e s1:=fun h=>A0a (E:={gam:=A1g SR}) A4w h
 have h0:=g (M5m SR k d)
 have h1:=g (M5n SR k d)
 have h2:=g (M5p SR k d)
 have hw:RD.wd (k,())=D1j (k,()):=rfl
 unfold P0h at hb
 rw[hw]at hb
 have q3:=M5q SR k d
 have fin:∀{n:Int},A0b Tryz.prog 164 (srL 3) (srS k d [(5,.val (.int .i64 12))]) .normal (srS k d [(5,.val (.int .i64 n))])→((k<1∨k>3)∨(d.size:Int)≠n)→A0b Tryz.prog 164 (.seq (srL 0) (.seq (srL 1) (.seq (srL 2) (.seq (srL 3) (.seq (srL 4) (srR 5)))))) (B0t 164 [.val (Cod.enc (Fr.mk k d))] []) .ret (srS k d [(5,.val (.int .i64 n))]):=by
  intro n h3 hc
  refine h0.seq (h1.seq (h2.seq (h3.seq (A0b.seqR (g ((M5r SR k n d).trans ?_))))))
  by_cases a1:k<1
  ·rw[decide_eq_true a1];rfl
  ·rw[decide_eq_false a1,cond_false]
   by_cases a2:k>3
   ·rw[decide_eq_true a2];rfl
   ·rw[decide_eq_false a2,cond_false]
    have a3:(d.size:Int)≠n:=by rcases hc with hc | hc<;>omega
    rw[show ((d.size:Int) != n)=true by simpa using a3]
    rfl
 by_cases e1:k=1
 ·subst e1
  have hd:((d.size:Int) != 12)=true:=hb
  exact ⟨12,fin (g q3) (.inr (by simpa using hd))⟩
 by_cases e3:k=3
 ·subst e3
  have hd:((d.size:Int) != 12)=true:=hb
  exact ⟨12,fin (g q3) (.inr (by simpa using hd))⟩
 by_cases e2:k=2
 ·subst e2
  have hd:((d.size:Int) != 18)=true:=hb
  exact ⟨18,fin (g q3) (.inr (by simpa using hd))⟩
 ·rw[beq_eq_false_iff_ne.2 e2,cond_false]at q3
  exact ⟨12,fin (g q3) (.inl (by omega))⟩
theorem P4j(c0 c1 c2 c3 c4 c5 c6 c7 c8 c9 ca cb:UInt8):fnSum Tryz.prog {gam:=A1g SR} [] 20 42 [.val (Cod.enc (Fr.mk 1 (ds12 c0 c1 c2 c3 c4 c5 c6 c7 c8 c9 ca cb)))] []=srE (C0j (⟨1,ds12 c0 c1 c2 c3 c4 c5 c6 c7 c8 c9 ca cb⟩,())):=(M5h SR c0 c1 c2 c3 c4 c5 c6 c7 c8 c9 ca cb).trans (Q3g c0 c1 c2 c3 c4 c5 c6 c7 c8 c9 ca cb)
theorem P4k(c0 c1 c2 c3 c4 c5 c6 c7 c8 c9 ca cb:UInt8):fnSum Tryz.prog {gam:=A1g SR} [] 20 42 [.val (Cod.enc (Fr.mk 3 (ds12 c0 c1 c2 c3 c4 c5 c6 c7 c8 c9 ca cb)))] []=srE (C0j (⟨3,ds12 c0 c1 c2 c3 c4 c5 c6 c7 c8 c9 ca cb⟩,())):=(M5k SR c0 c1 c2 c3 c4 c5 c6 c7 c8 c9 ca cb).trans (Q3h c0 c1 c2 c3 c4 c5 c6 c7 c8 c9 ca cb)
theorem P4m(c0 c1 c2 c3 c4 c5 c6 c7 c8 c9 ca cb cc cd ce cf cg ch:UInt8):fnSum Tryz.prog {gam:=A1g SR} [] 20 42 [.val (Cod.enc (Fr.mk 2 (ds18 c0 c1 c2 c3 c4 c5 c6 c7 c8 c9 ca cb cc cd ce cf cg ch)))] []=srE (C0j (⟨2,ds18 c0 c1 c2 c3 c4 c5 c6 c7 c8 c9 ca cb cc cd ce cf cg ch⟩,())):=(M5t SR c0 c1 c2 c3 c4 c5 c6 c7 c8 c9 ca cb cc cd ce cf cg ch).trans (Q3j c0 c1 c2 c3 c4 c5 c6 c7 c8 c9 ca cb cc cd ce cf cg ch)
theorem W1h{k:Int}{d:ByteArray}{x:Two Rdg Bool}(h:fnSum Tryz.prog {gam:=A1g SR} [] 20 42 [.val (Cod.enc (Fr.mk k d))] []=srE x):([]:List Con).length≤([]:List Con).length∧CallFacts Tryz.prog 42 [.val (Cod.enc (Fr.mk k d))] (numH 0 []) ([]:List Con).length ([]:List Con).length (.val (Cod.enc x)) (numH 0 []) :=
 V0w (fnSum_facts (E:={gam:=A1g SR}) A4w (by simp) h)
theorem N3q:A0h Tryz.prog 42 (S0 C0j):=by
 intro args cs r cs' hs
 obtain ⟨⟨⟨k,d⟩,_⟩,rfl,rfl,rfl,rfl⟩:=W1w hs
 cases hb:P0h RD k d with
 | true =>
  have e:C0j (⟨k,d⟩,())=⟨⟨0,0,⟨0,0,0⟩⟩,false⟩:=by unfold C0j Q1q;dsimp only;rw[hb];rfl
  rw[e]
  obtain ⟨n,h⟩:=P4e hb
  exact E0k P4g M5j sr_N (by show 1≤164;omega) (by simp) rfl rfl rfl (.inr rfl) h (P4h ..) rfl rfl (fun _ _ h=>by simp at h) rfl rfl
 | false =>
  rcases L1e hb with ⟨rfl,h⟩ | ⟨rfl,h⟩ | ⟨rfl,h⟩
  ·obtain ⟨c0,c1,c2,c3,c4,c5,c6,c7,c8,c9,ca,cb,rfl⟩:=ba12 d h
   have h:=P4j c0 c1 c2 c3 c4 c5 c6 c7 c8 c9 ca cb
   generalize C0j (⟨1,ds12 c0 c1 c2 c3 c4 c5 c6 c7 c8 c9 ca cb⟩,())=x at h ⊢
   exact W1h h
  ·obtain ⟨c0,c1,c2,c3,c4,c5,c6,c7,c8,c9,ca,cb,rfl⟩:=ba12 d h
   have h:=P4k c0 c1 c2 c3 c4 c5 c6 c7 c8 c9 ca cb
   generalize C0j (⟨3,ds12 c0 c1 c2 c3 c4 c5 c6 c7 c8 c9 ca cb⟩,())=x at h ⊢
   exact W1h h
  ·obtain ⟨c0,c1,c2,c3,c4,c5,c6,c7,c8,c9,ca,cb,cc,cd,ce,cf,cg,ch,rfl⟩:=ba18 d h
   have h:=P4m c0 c1 c2 c3 c4 c5 c6 c7 c8 c9 ca cb cc cd ce cf cg ch
   generalize C0j (⟨2,ds18 c0 c1 c2 c3 c4 c5 c6 c7 c8 c9 ca cb cc cd ce cf cg ch⟩,())=x at h ⊢
   exact W1h h
theorem X2x:A0h Tryz.prog 43 (S0 D0y):=H0n (E:={gam:=[]}) GamOk.nil 20 fun a=>by
 obtain ⟨r,t,_⟩:=a
 refine (R2c r t).trans ?_
 unfold D0y G2q
 dsimp only
 by_cases h:r.tk>t
 ·rw[decide_eq_true h,decide_eq_false (by omega:¬ r.tk≤t)];rfl
 ·rw[decide_eq_false h,decide_eq_true (by omega:r.tk≤t)];rfl
noncomputable def enR:Nat→Code
 | 0=>Tryz.f40.body.getD .skip
 | k+1=>seqR (enR k)
noncomputable def enL(k:Nat):Code:=seqL (enR k)
noncomputable def enB:Code:=inB (inB (seqR (enL 8)))
noncomputable def enT:Nat→Code
 | 0=>inB (seqL (seqR (seqR enB)))
 | k+1=>seqR (enT k)
noncomputable def enO7:Array Oper:=regO (enL 7)
noncomputable def J1d:Array Oper:=regO (seqL (enT 0))
theorem A5d:Tryz.f40.body=some (.seq (enL 0) (.seq (enL 1) (.seq (enL 2) (.seq (enL 3) (.seq (enL 4) (.seq (enL 5) (.seq (enL 6) (.seq (.region 14 enO7 false) (.seq (.seq (seqL (enL 8)) (.block 2 (.loop (.seq (seqL enB) (.seq (seqL (seqR enB)) (.seq (.block 3 (.seq (.region 17 J1d false) (.seq (seqL (enT 1)) (enT 2)))) (seqR (seqR (seqR enB))))))))) (enR 9)))))))))):=by kernel_rfl
theorem Z3p:Tryz.prog.funcs[40]?=some Tryz.f40:=by kernel_rfl
theorem en_N:Tryz.f40.ntmps=98:=by kernel_rfl
theorem A4h : (Tryz.f41.body.isSome && !Tryz.f41.name == "runtime.NumGoroutine") = true := by kernel_rfl
def D2y:Call:={callee:=.value (.func 41),args:=#[.tmp 51],argTypes:=#[9]}
theorem A5b:B0a enO7 4=some (.call D2y,some 52,true):=by kernel_rfl
theorem A5c:List.range enO7.size=(List.range (enO7.toList.take 4).length).map (0+·)++(4 :: ((List.range (enO7.toList.drop 5).length).map (5+·)++[])):=by kernel_rfl
theorem Z3h:B0a J1d 0=some (.indexAddr 96 (.tmp 56) (.tmp 58),some 60,true):=by kernel_rfl
theorem Z3j:B0a J1d 1=some (.load 74 (.tmp 60),some 61,true):=by kernel_rfl
theorem Z3k:List.range J1d.size=0 :: 1 :: ((List.range (J1d.toList.drop 2).length).map (2+·)++[]):=by kernel_rfl
def eN(k:Nat):Nat:=4096+k*2^180
structure Th where
 a:Bool
 b:Bool
 c:Bool
 d:Bool
def thR(t:Th):Con:=.row 95 [.val (.bool t.a),.val (.bool t.b),.val (.bool t.c),.val (.bool t.d)]
def W0n(rd:Fr×Unit→Two Rdg Bool)(fr:Rdg×Int×Unit→Bool):Gam:=[(42,S0 rd),(43,S0 fr)]
def enS(a b:Crf)(v:Bool)(lo:Nat)(tm:List (Nat×AV))(H:Hp):St:=gSt 98 ([(4,.ptr 4096 0),(5,.ptr (eN 1) 0),(8,.val (.bool v))]++tm) ([(4096,.row 44 (C0x a)),(eN 1,.row 44 (C0x b))]++H) lo
def enI(a b:Crf)(l:Option Addr)(n c:Nat)(i:Int)(t:Th)(lo:Nat)(tm:List (Nat×AV))(H:Hp):St:=enS a b false lo ([(12,.ptr (eN 3) 0),(56,.val (.slice l n c)),(57,.val (.int .i64 n)),(58,.val (.int .i64 i))]++tm) ([(eN 3,thR t)]++H)
def enF(a b:Crf)(l:Option Addr)(n c:Nat)(i:Int)(t:Th)(k:Int)(d:ByteArray):St:=enI a b l n c i t (eN 5) [(17,.ptr (eN 4) 0)] [(eN 4,.row 74 [.val (.int .i64 k),.val (.string d)])]
def enD(a b:Crf)(l:Option Addr)(n c:Nat)(i:Int)(t:Th)(r:Rdg)(ok:Bool):St:=enI a b l n c i t (eN 6) [(18,.ptr (eN 5) 0),(19,.val (.bool ok))] [(eN 5,.row 100 ((CodL.encl r).map AV.val))]
def sq4(q:V4):Int:=wI (wI (wI (wI (0+wI (q.w*q.w))+wI (q.x*q.x))+wI (q.y*q.y))+wI (q.z*q.z))
abbrev EnT:List Nat:=[4,5,8,12,56,57,58]
abbrev EnK:List Nat:=[4096,eN 1,eN 3]
noncomputable abbrev N0a(rd:Fr×Unit→Two Rdg Bool)(fr:Rdg×Int×Unit→Bool)(c:Code)(s:St)(ks ts:List Nat):Option (Ex×St):=gRun Tryz.prog {gam:=W0n rd fr} 98 c s ks ts
def enV(v:Bool)(lo:Nat):St:=gSt 98 [(8,.val (.bool v))] [] lo
section
variable (rd:Fr×Unit→Two Rdg Bool) (fr:Rdg×Int×Unit→Bool) (a b:Crf) (tl:Tl) (s x z:ByteArray) (l:Option Addr) (ad:Addr) (n c:Nat) (i k o m tk:Int) (t:Th) (v:Bool) (d:ByteArray) (r:Rdg) (w:V3)
theorem A5g:N0a rd fr (enL 0) (B0t 98 [.val (Cod.enc a),.val (Cod.enc b),.val (Cod.enc tl),.val (.string s)] []) [4096,eN 1,eN 2] [3,4,5,6,8]=some (.normal,enS a b false (eN 3) [(3,.val (.string s)),(6,.ptr (eN 2) 0)] [(eN 2,C2b tl)]):=by kernel_rfl
theorem A5h:N0a rd fr (enL 1) (enS a b false (eN 3) [(3,.val (.string s)),(6,.ptr (eN 2) 0)] [(eN 2,C2b tl)]) [4096,eN 1,eN 2] [3,4,5,6,8,9]=some (.normal,enS a b false (eN 3) [(3,.val (.string s)),(6,.ptr (eN 2) 0),(9,.val (.int .i64 0))] [(eN 2,C2b tl)]):=by kernel_rfl
theorem A5j:N0a rd fr (enL 2) (enS a b false (eN 3) [(3,.val (.string s)),(6,.ptr (eN 2) 0),(9,.val (.int .i64 0))] [(eN 2,C2b tl)]) [4096,eN 1] [3,4,5,8,9]=some (.normal,enS a b false (eN 3) [(3,.val (.string s)),(9,.val (.int .i64 (sq4 tl.q)))] []):=by kernel_rfl
theorem A5k:N0a rd fr (enL 3) (enS a b false (eN 3) [(3,.val (.string s)),(9,.val (.int .i64 m))] []) [4096,eN 1] [3,4,5,8,9]=bif b.plan.mode != 2 then some (.ret,enS a b (m==0) (eN 3) [(3,.val (.string s)),(9,.val (.int .i64 m))] []) else some (.normal,enS a b false (eN 3) [(3,.val (.string s)),(9,.val (.int .i64 m))] []):=by kernel_rfl
theorem A5m:N0a rd fr (enL 4) (enS a b false (eN 3) [(3,.val (.string s)),(9,.val (.int .i64 m))] []) [4096,eN 1] [3,4,5,8]=bif decide (m<268173312) then some (.ret,enS a b false (eN 3) [(3,.val (.string s))] []) else bif decide (m>268697600) then some (.ret,enS a b false (eN 3) [(3,.val (.string s))] []) else some (.normal,enS a b false (eN 3) [(3,.val (.string s))] []):=by kernel_rfl
theorem A5n:N0a rd fr (enL 5) (enS a b false (eN 3) [(3,.val (.string s))] []) [4096,eN 1] [3,4,5,8]=bif a.plan.mode==2 then some (.ret,enS a b true (eN 3) [(3,.val (.string s))] []) else some (.normal,enS a b false (eN 3) [(3,.val (.string s))] []):=by kernel_rfl
theorem A5p:N0a rd fr (enL 6) (enS a b false (eN 3) [(3,.val (.string s))] []) EnK [3,4,5,8,12]=some (.normal,enS a b false (eN 4) [(3,.val (.string s)),(12,.ptr (eN 3) 0)] [(eN 3,thR ⟨false,false,false,false⟩)]):=by kernel_rfl
theorem A5q:B0j Tryz.prog (B0v Tryz.prog {gam:=W0n rd fr} 4 (Bool×St)) (B0p (W0n rd fr)) 98 enO7 (enO7.toList.take 4) (enS a b false (eN 4) [(3,.val (.string s)),(12,.ptr (eN 3) 0)] [(eN 3,thR t)]) [] (C0p EnK (E0d 98 [4,5,8,12,51]))=bif decide (((a.left.size+s.size:Nat):Int)>9223372036854775807) then none else some (true,enS a b false (eN 4) [(12,.ptr (eN 3) 0),(51,.val (.string (a.left++s)))] [(eN 3,thR t)]):=by kernel_rfl
theorem Z3y:B0j Tryz.prog (B0v Tryz.prog {gam:=W0n rd fr} 4 (Bool×St)) (B0p (W0n rd fr)) 98 enO7 (enO7.toList.drop 5) {enS a b false (eN 4) [(12,.ptr (eN 3) 0),(51,.val (.string x))] [(eN 3,thR t)]with tmps:=(enS a b false (eN 4) [(12,.ptr (eN 3) 0),(51,.val (.string x))] [(eN 3,thR t)]).tmps.set 52 (.val (.tuple #[.slice l n c,.string z,.int .i64 o]))} [] (C0p EnK (E0d 98 [4,5,8,12,13]))=some (true,enS a b false (eN 4) [(12,.ptr (eN 3) 0),(13,.val (.slice l n c))] [(eN 3,thR t)]):=by kernel_rfl
theorem A5r:N0a rd fr (seqL (enL 8)) (enS a b false (eN 4) [(12,.ptr (eN 3) 0),(13,.val (.slice l n c))] [(eN 3,thR t)]) EnK EnT=some (.normal,enI a b l n c 0 t (eN 4) [] []):=by kernel_rfl
theorem B3u:N0a rd fr (seqL enB) (enI a b l n c i t (eN 4) [] []) EnK (59 :: EnT)=some (.normal,enI a b l n c i t (eN 4) [(59,.val (.bool (decide (i<n))))] []):=by kernel_rfl
theorem Z3z:N0a rd fr (seqL (seqR enB)) (enI a b l n c i t (eN 4) [(59,.val (.bool v))] []) EnK EnT=bif v then some (.normal,enI a b l n c i t (eN 4) [] []) else some (.exit 2,enI a b l n c i t (eN 4) [] []):=by kernel_rfl
theorem Z3q:B0j Tryz.prog (B0v Tryz.prog {gam:=W0n rd fr} 4 (Bool×St)) (B0p (W0n rd fr)) 98 J1d (J1d.toList.drop 2) {enI a b l n c i t (eN 4) [] []with tmps:=((enI a b l n c i t (eN 4) [] []).tmps.set 60 (.val (.pointer (some ad)))).set 61 (.val (.agg (List.toArray [.int .i64 k,.string d])))} [] (C0p [4096,eN 1,eN 3,eN 4] (E0d 98 (17 :: EnT)))=some (true,enF a b l n c i t k d):=by kernel_rfl
theorem Z3r:N0a rd fr (seqL (enT 1)) (enF a b l n c i t k d) [4096,eN 1,eN 3,eN 5] (18 :: 19 :: EnT)=some (.normal,enD a b l n c i t (rd (⟨k,d⟩,())).a (rd (⟨k,d⟩,())).b):=by kernel_rfl
theorem A5t:N0a rd fr (enT 2) (enD a b l n c i t r false) EnK EnT=some (.normal,enI a b l n c i t (eN 6) [] []):=by kernel_rfl
theorem Z3t:N0a rd fr (enT 2) (enD a b l n c i t ⟨1,tk,w⟩ true) EnK EnT=bif fr (⟨1,tk,w⟩,b.tk,()) then some (.normal,enI a b l n c i {t with b:=true} (eN 6) [] []) else some (.normal,enI a b l n c i t (eN 6) [] []):=by kernel_rfl
theorem Z3w:N0a rd fr (enT 2) (enD a b l n c i t ⟨2,tk,w⟩ true) EnK EnT=bif fr (⟨2,tk,w⟩,b.tk,()) then some (.normal,enI a b l n c i {t with c:=true} (eN 6) [] []) else some (.normal,enI a b l n c i t (eN 6) [] []):=by kernel_rfl
theorem Z3x:N0a rd fr (enT 2) (enD a b l n c i t ⟨3,tk,w⟩ true) EnK EnT=bif fr (⟨3,tk,w⟩,b.tk,()) then some (.normal,enI a b l n c i {t with d:=true} (eN 6) [] []) else some (.normal,enI a b l n c i t (eN 6) [] []):=by kernel_rfl
theorem Z3u:N0a rd fr (seqR (seqR (seqR enB))) (enI a b l n c i t (eN 4) [] []) EnK EnT=some (.normal,enI a b l n c (IntKind.i64.wrap (i+1)) t (eN 4) [] []):=by kernel_rfl
theorem Z3v:N0a rd fr (enR 9) (enI a b l n c i t (eN 4) [] []) [] [8]=bif a.plan.mode==1 then bif t.b then bif t.c then bif t.d then some (.ret,enV b.placed (eN 4)) else some (.ret,enV false (eN 4)) else some (.ret,enV false (eN 4)) else some (.ret,enV false (eN 4)) else some (.ret,enV false (eN 4)):=by kernel_rfl
theorem J1e(lo:Nat)(tm:List (Nat×AV))(H:Hp):resA Tryz.prog (enS a b v lo tm H) Tryz.f40.results.toList=some [.val (.bool v)]:=by kernel_rfl
theorem G3k(lo:Nat):resA Tryz.prog (enV v lo) Tryz.f40.results.toList=some [.val (.bool v)]:=by kernel_rfl
theorem A5e(lo:Nat):A0p (eN 4) (enI a b l n c i t lo [] [])=true:=by kernel_rfl
theorem E2q(lo:Nat):(enI a b l n c i t lo [] []).tmps.length=98:=by kernel_rfl
theorem G3j:(enS a b false (eN 4) [(12,.ptr (eN 3) 0),(51,.val (.string x))] [(eN 3,thR t)]).tmps.length=98:=by kernel_rfl
end
end Go.Ab
