/- A part of the proofs: lemmas, no statement of their own; no condition. -/
import Derived.Test.YtoocjipllmkjcaaGreatGDrB
import Derived.Test.YtoocjipllmkjcaaGreatGTrB
import Derived.Test.YtoocjipllmkjcaaGreatGFrM
import Derived.Test.YtoocjipllmkjcaaGreatGFrC
set_option linter.unusedSimpArgs false
namespace Go.Ab
open Go Go.Proofs
theorem D3j:∃td,Tryz.prog.underlying 74=some td∧R0n td=true:=by
 have :=R4d
 cases h:Tryz.prog.underlying 74 with
 | none=>rw[h]at this;cases this
 | some td=>rw[h]at this;exact ⟨td,rfl,by simpa using this⟩
theorem lX(s:ByteArray)(a:Option Addr)(n c:Nat)(o i m:Int)(x:Two Fr Bool):(rX s a n c o i m x).tmps.length=83:=by kernel_rfl
theorem hX(s:ByteArray)(a:Option Addr)(n c:Nat)(o i m:Int)(x:Two Fr Bool):hget (rX s a n c o i m x).heap 4096=some (.row 74 ((B0r x.a).map .val)):=by kernel_rfl
theorem wk20(s:ByteArray)(a:Option Addr)(n c:Nat)(o i m:Int)(x:Two Fr Bool)(g:Option Addr)(n' c':Nat)(u1 u2 u3:Value) :
  G0k [] (Q0c 83 [0,5,6,7,8]) {rX s a n c o i m x with tmps:=(((((rX s a n c o i m x).tmps.set 73 (.val u1)).set 74 (.val u2)).set 75 (.val u3)).set 76 (.val (.slice g n' c'))).set 5 (.val (.slice g n' c'))}={rS s g n' c' o i [(8,.int .i64 m)]with lo:=fr2}:=by kernel_rfl
theorem cl20(s:ByteArray)(a:Option Addr)(n c:Nat)(o i m:Int):A0p 4096 {rS s a n c o i [(8,.int .i64 m)]with lo:=fr2}=true:=by kernel_rfl
theorem ct20(s:ByteArray)(a:Option Addr)(n c:Nat)(o i m:Int):({({rS s a n c o i [(8,.int .i64 m)]with lo:=fr2}:St) with lo:=4096,hi:=frH}:St)=rS s a n c o i [(8,.int .i64 m)]:=by kernel_rfl
theorem N4m{W0 wb:World}{F:Nat→Prop}{s:ByteArray}{a:Option Addr}{n c:Nat}{o i m:Int}{x:Two Fr Bool}{fs:List Fr}{act:Act}{w:World}(L:Live W0 F wb)(hst:A0t F wb 83 (rX s a n c o i m x) act w)
  (hown:wb.ownsRow W0.heap.size 74 2 (.slice a n c) n (D0x fs)) (hF:∀r,(Value.slice a n c).ownBlock=some r→F r) (hn:n≤1099511627776) {Q:Exit→Act→World→Prop}
  (hQ:∀F' wb' a' c' act' w',Live W0 F' wb'→A0t F' wb' 83 (rS s a' (n+1) c' o i [(8,.int .i64 m)]) act' w'→wb'.ownsRow W0.heap.size 74 2 (.slice a' (n+1) c') (n+1) (D0x (fs++[x.a]))→(∀r,(Value.slice a' (n+1) c').ownBlock=some r→F' r)→Q .normal act' w') :
  (Code.region 20 rO20 false).wp Tryz.prog Q act w:=by
 obtain ⟨ti,hti,ts,tb,tz⟩:=E1y
 obtain ⟨td,htd,hag⟩:=D3j
 refine wp_region ?_
 rw[rgn]
 refine K0g rg0 (by omega) (lX ..) hst (v:=.slice a n c) (hst.eval (t:=5) rfl) _ fun a1 h1=>?_
 obtain ⟨r,h9,hrow⟩:=h1.own (t:=9) (b:=4096) (vs:=B0r x.a) rfl (hX s a n c o i m x)
 refine X0e rg1 (by omega) (by rw[List.length_set];exact lX ..) h1 (v:=.agg (List.toArray (B0r x.a))) (fun o ho=>?_) _ fun a2 h2=>?_
 ·simp only[execOp,ho,Instr.loadAt,G0r h9,Instr.sureAddr,Sem.run_bind,Sem.run_pure,Result.andThen_ok,C1k htd hag hti hrow (by rw[ts];rfl)]
 refine T0b rg2 (by omega) (by rw[List.length_set,List.length_set];exact lX ..) h2 (vals:=[(0,.agg (List.toArray (B0r x.a)))]) ?_ (E2a x.a) _ fun a3 h3=>?_
 ·have e1:a2.eval (.tmp 74)=.agg (List.toArray (B0r x.a)):=h2.eval (t:=74) rfl
  simp only[List.map_cons,List.map_nil,e1]
 have hownw:=H0e (w':=w) hown fun k hk=>(hst.keep.frame k (hF k hk)).2
 have hbase:∀k,(Value.slice a n c).ownBlock=some k→W0.heap.size≤k:=by
  intro k hk
  rcases hown.2 with ⟨h1,_⟩ | ⟨g,c1,cur,h1,h2,_⟩
  ·rw[h1]at hk;cases hk
  ·rw[h1]at hk;cases hk;exact h2
 have hFlt:∀k,F k→k<w.heap.size:=fun k hk=>hst.keep.lt hk
 have L3:=L.grown h2 (K0j w (.cells (List.toArray (B0r x.a)) 74)) fun _ h=>by cases h
 have hLs:=L.size h2
 have g1:=K0j w (.cells (List.toArray (B0r x.a)) 74)
 have hnew:(w.alloc (.cells (List.toArray (B0r x.a)) 74)).heap[w.heap.size]?=some (.cells (List.toArray (B0r x.a)) 74 (0,0)):=by
  show (w.heap.push _)[w.heap.size]?=_
  simp
 have hs1:(w.alloc (.cells (List.toArray (B0r x.a)) 74)).heap.size=w.heap.size+1:=Array.size_push ..
 generalize w.alloc (.cells (List.toArray (B0r x.a)) 74)=w1 at h3 L3 g1 hnew hs1
 have hown1:=H0e (w':=w1) hownw fun k hk=>g1.block k (hFlt k (hF k hk)) (by simp)
 obtain ⟨v',w2,hr2,own2,g2,n2⟩:=P0m (P:=Tryz.prog) w1 96 0 74 ti _ 2 24 v33 hti tz ts tb rfl (by omega) W0.heap.size _ n _ hown1 ⟨w.heap.size,0,none⟩ 1 1 (B0r x.a) rfl
  (fun j u hj=>by
   rw[G0a,Nat.zero_add]
   simp only[World.cell?,hnew]
   simpa using hj) (fun u hu=>by simp only[B0r,List.mem_cons,List.not_mem_nil,or_false]at hu;rcases hu with rfl | rfl<;>rfl) (by simp only[maxLen];omega) (by omega) (by omega)
 have hv':∃g c',v'=.slice (some ⟨g,0,none⟩) (n+1) c'∧g<w2.heap.size:=by
  rcases own2.2 with ⟨_,h1⟩ | ⟨g,c',cur,e1,_,e3,_⟩
  ·omega
  ·exact ⟨g,c',e1,Y1v e3⟩
 obtain ⟨g,c',rfl,hgl⟩:=hv'
 refine P0n rg3 (by omega) (by simp only[List.length_set];exact lX ..) h3 (v:=.slice a n c) (u:=.slice (some ⟨w.heap.size,0,none⟩) 1 1) (h3.eval (t:=73) rfl) (h3.eval (t:=75) rfl) hr2 g2 (fun r hr=>.inl (hF r hr)) _ fun a4 h4=>?_
 have L4:=L3.grown h3 g2 hbase
 refine M1m rg4 (by omega) (by simp only[List.length_set];exact lX ..) h4 (v:=.slice (some ⟨g,0,none⟩) (n+1) c') (h4.eval (t:=76) rfl) [] fun a5 h5=>?_
 have hwk:=h5.weak (s':={rS s (some ⟨g,0,none⟩) (n+1) c' o i [(8,.int .i64 m)]with lo:=fr2}) (by
  rw[← wk20 s a n c o i m x (some ⟨g,0,none⟩) (n+1) c' (.slice a n c) (.agg (List.toArray (B0r x.a))) (.slice (some ⟨w.heap.size,0,none⟩) 1 1)]
  exact C0e _ _ _) (Nat.le_refl _) (Nat.le_refl _)
 have hct:=hwk.cut (lo:=4096) (hi:=frH) (cl20 ..)
 rw[ct20]at hct
 refine hQ _ w2 (some ⟨g,0,none⟩) c' _ w2 L4 hct ?_ fun k hk=>?_
 ·have e:D0x (fs++[x.a])=D0x fs++B0r x.a:=by unfold D0x;rw[List.flatMap_append];simp
  rw[e]
  exact own2
 ·cases hk
  rcases n2 g rfl with h | h
  ·exact .inl (.inl (hF g h))
  ·exact .inr ⟨h,hgl⟩
end Go.Ab
namespace Go.Ab
open Go
theorem Z0e(r:List UInt8):B0w (165 :: r)=if (165 :: r:List UInt8).length<3 then ([],165 :: r,0) else if 64<((165 :: r:List UInt8).getD 2 0).toNat then N0m (B0w r) else if (165 :: r:List UInt8).length<((165 :: r:List UInt8).getD 2 0).toNat+5 then ([],165 :: r,0) else
  if (B0d (bsL ((165 :: r:List UInt8).take (((165 :: r:List UInt8).getD 2 0).toNat+5)))).b then D1p (B0d (bsL ((165 :: r:List UInt8).take (((165 :: r:List UInt8).getD 2 0).toNat+5)))).a (B0w ((165 :: r:List UInt8).drop (((165 :: r:List UInt8).getD 2 0).toNat+5))) else N0m (B0w r):=by
 rw[V1y]
 show (if (165:UInt8)=165 then _ else N0m (B0w r))=_
 exact if_pos rfl
end Go.Ab
namespace Go.Ab
open Go Go.Proofs
section
variable (s z:ByteArray) (a:Option Addr) (n c:Nat) (o i m:Int) (x:Two Fr Bool)
theorem oR0:A0g (mkSt 83 [0] [.string s] [] [] [] 4096 frH frT)=true:=by kernel_rfl
theorem oR1:A0g (mkSt 83 [0,5] [.string s,.slice none 0 0] [] [] [] 4096 frH frT)=true:=by kernel_rfl
theorem oR2:A0g (mkSt 83 [0,5,6] [.string s,.slice none 0 0,.int .i64 0] [] [] [] 4096 frH frT)=true:=by kernel_rfl
theorem oR3:A0g (rS s a n c o i [])=true:=by kernel_rfl
theorem oR8:A0g (rS s a n c o i [(2,.slice a n c),(3,.string z),(4,.int .i64 o)])=true:=by kernel_rfl
theorem oR10:A0g (rS s a n c o i [(8,.int .i64 m)])=true:=by kernel_rfl
theorem oR14:A0g (rS s a n c o i [(8,.int .i64 m),(2,.slice a n c),(3,.string z),(4,.int .i64 o)])=true:=by kernel_rfl
theorem oRX:A0g (rX s a n c o i m x)=true:=by kernel_rfl
theorem oRX':A0g {rX s a n c o i m x with lo:=fr2}=true:=by kernel_rfl
theorem oR22:A0g (mkSt 83 [2,3,4] [.slice a n c,.string z,.int .i64 o] [] [] [] 4096 frH frT)=true:=by kernel_rfl
theorem rR8:resA Tryz.prog (rS s a n c o i [(2,.slice a n c),(3,.string z),(4,.int .i64 o)]) Tryz.f41.results.toList=some [.val (.slice a n c),.val (.string z),.val (.int .i64 o)]:=by kernel_rfl
theorem rR14:resA Tryz.prog (rS s a n c o i [(8,.int .i64 m),(2,.slice a n c),(3,.string z),(4,.int .i64 o)]) Tryz.f41.results.toList=some [.val (.slice a n c),.val (.string z),.val (.int .i64 o)]:=by kernel_rfl
theorem rR22:resA Tryz.prog (mkSt 83 [2,3,4] [.slice a n c,.string z,.int .i64 o] [] [] [] 4096 frH frT) Tryz.f41.results.toList=some [.val (.slice a n c),.val (.string z),.val (.int .i64 o)]:=by kernel_rfl
theorem wkR:G0k [] (Q0c 83 [0,5,6,7]) (rS s a n c o i [(8,.int .i64 m)])=rS s a n c o i []:=by kernel_rfl
theorem wkX:G0k [] (Q0c 83 [0,5,6,7]) {rX s a n c o i m x with lo:=fr2}={rS s a n c o i []with lo:=fr2}:=by kernel_rfl
theorem clX:A0p 4096 {rS s a n c o i []with lo:=fr2}=true:=by kernel_rfl
theorem ctX:({({rS s a n c o i []with lo:=fr2}:St) with lo:=4096,hi:=frH}:St)=rS s a n c o i []:=by kernel_rfl
end
def W1x(W0:World)(x:Scd)(act:Act)(w:World):Prop:=∃v,(results Tryz.f41 act.tmps).run Tryz.prog w=.ok v w∧act.defers=[]∧RowKit.Below W0.heap.size W0 w∧M1k W0 x v w
theorem C1n{W0 wb:World}{F:Nat→Prop}{s:St}{a:Option Addr}{n c:Nat}{fs:List Fr}{l:List UInt8}{o:Nat}{act:Act}{w:World}(L:Live W0 F wb)(hst:A0t F wb 83 s act w)(hown:wb.ownsRow W0.heap.size 74 2 (.slice a n c) n (D0x fs))(hF:∀r,(Value.slice a n c).ownBlock=some r→F r)(hn:fs.length=n)
  (hr:resA Tryz.prog s Tryz.f41.results.toList=some [.val (.slice a n c),.val (.string (bsL l)),.val (.int .i64 (o:Int))]):W1x W0 (fs,l,o) act w:=by
 obtain ⟨y1,y2,y3⟩:=hst.resultsV (P:=Tryz.prog) (fn:=Tryz.f41) (v:=.tuple #[.slice a n c,.string (bsL l),.int .i64 (o:Int)]) hr rfl
 subst hn
 exact ⟨_,y1,y2,(L.chain _ y3).below,a,c,rfl,H0e hown fun r hr=>(hst.keep.frame r (hF r hr)).2⟩
structure C2v(W0:World)(S0:List UInt8)(i:Nat)(fs:List Fr)(o:Nat)(F:Nat→Prop)(wb:World)(a:Option Addr)(n c:Nat)(act:Act)(w:World):Prop where
 live:Live W0 F wb
 stand:A0t F wb 83 (rS (bsL S0) a n c o i []) act w
 own:wb.ownsRow W0.heap.size 74 2 (.slice a n c) n (D0x fs)
 prot:∀r,(Value.slice a n c).ownBlock=some r→F r
 len:fs.length=n
 b1:n≤i
 b2:o≤i
 b3:i≤S0.length
 eq:B0w S0=catS fs o (B0w (S0.drop i))
theorem rGok:GamOk Tryz.prog (rGam szOk fun p=>B0d p.1):=.cons B1k .nil
theorem M0a:∀β,D0t Tryz.prog (B0v Tryz.prog {gam:=rGam szOk fun p=>B0d p.1} 1 β):=B0b (E:={gam:=rGam szOk fun p=>B0d p.1}) rGok 1
section
variable {W0:World} {S0:List UInt8} {Q:Exit→Act→World→Prop}
abbrev GoR(W0:World)(S0:List UInt8)(k:Nat)(Q:Exit→Act→World→Prop):Prop:=∀i' fs' o' F' wb' a' n' c' act' w',k<i'→C2v W0 S0 i' fs' o' F' wb' a' n' c' act' w'→Q .normal act' w'∧Q (.exit 1) act' w'
abbrev D3u(S0:List UInt8)(W0:World)(i:Nat)(fs:List Fr)(o:Nat)(Q:Exit→Act→World→Prop):Prop:=∀F' wb' a' n' c' act' w',Live W0 F' wb'→A0t F' wb' 83 (rS (bsL S0) a' n' c' (o+1:Nat) (i+1:Nat) []) act' w'→wb'.ownsRow W0.heap.size 74 2 (.slice a' n' c') n' (D0x fs)→(∀r,(Value.slice a' n' c').ownBlock=some r→F' r)→fs.length=n' →
   B0w (S0.drop i)=N0m (B0w (S0.drop (i+1)))→Q (.exit 1) act' w'
theorem wad{x:Nat}(h:x≤1099511627776):IntKind.i64.wrap ((x:Int)+1)=((x+1:Nat):Int):=by rw[C0k];omega
theorem waq{i m:Nat}(h:i≤1099511627776)(hm:m≤256):IntKind.i64.wrap (IntKind.i64.wrap ((i:Int)+(m:Int))+5)=((i+(m+5):Nat):Int):=by
 have e:IntKind.i64.wrap ((i:Int)+(m:Int))=((i+m:Nat):Int):=by rw[C0k];omega
 rw[e,C0k]
 omega
theorem L5z(hS:S0.length≤1099511627776){i:Nat}{fs:List Fr}{o:Nat}{F:Nat→Prop}{wb:World}{a:Option Addr}{n c m:Nat}{act:Act}{w:World}(L:Live W0 F wb)(h5:A0t F wb 83 (rS (bsL S0) a n c o i [(8,.int .i64 m)]) act w)
  (hown:wb.ownsRow W0.heap.size 74 2 (.slice a n c) n (D0x fs)) (hF:∀r,(Value.slice a n c).ownBlock=some r→F r) (hlen:fs.length=n) (hb1:n≤i) (hb2:o≤i) (hm0:m<256) (hi5:i+(m+5)≤S0.length) (heq:B0w S0=catS fs o (B0w (S0.drop i)))
  (hsc:B0w (S0.drop i)=if (B0d (bsL ((S0.drop i).take (m+5)))).b then D1p (B0d (bsL ((S0.drop i).take (m+5)))).a (B0w ((S0.drop i).drop (m+5))) else N0m (B0w (S0.drop (i+1))))
  (skip:D3u S0 W0 i fs o Q) (hN:GoR W0 S0 i Q):(Code.seq rc16 (.seq rc17 (.seq (.region 20 rO20 false) rc21))).wp Tryz.prog Q act w:=by
 have hsz:=B0z S0
 have hrun:=rr16 szOk (fun p=>B0d p.1) (bsL S0) a n c o i m
 have wq:=waq (i:=i) (m:=m) (by omega) (by omega)
 dsimp only at hrun
 have hcut:(bsL S0).extract i (i+(m+5))=bsL ((S0.drop i).take (m+5)):=by rw[K0n,show i+(m+5)-i=m+5 by omega]
 rw[wq,decide_eq_true (p:=0≤(i:Int)∧(i:Int)≤((i+(m+5):Nat):Int)∧((i+(m+5):Nat):Int)≤((bsL S0).size:Int)) (by omega),cond_true,Int.toNat_natCast,Int.toNat_natCast,hcut]at hrun
 have hpre:szOk (bsL ((S0.drop i).take (m+5)),())=true:=decide_eq_true (by show (bsL _).size≤_;rw[B0z,List.length_take];omega)
 rw[hpre,cond_true]at hrun
 refine wp_seq ((A0e M0a _ _ hrun).stand (oRX ..) h5 fun a6 w6 h6=>?_)
 generalize hx:B0d (bsL ((S0.drop i).take (m+5)))=x at h6 hsc
 have hrun:=rr17 szOk (fun p=>B0d p.1) (bsL S0) a n c o i m x
 rw[wad (x:=o) (by omega),wad (x:=i) (by omega)]at hrun
 cases hxb:x.b with
 | false =>
  rw[hxb]at hrun hsc
  simp only[Bool.not_false,cond_true]at hrun
  rw[if_neg (by simp)]at hsc
  refine wp_seq ((A0e M0a _ _ hrun).stand (oRX' ..) h6 fun a7 w7 h7=>?_)
  have hwk:=h7.weak (s':={rS (bsL S0) a n c (o+1:Nat) (i+1:Nat) []with lo:=fr2}) (by rw[← wkX (m:=m) (x:=x)];exact C0e _ _ _) (Nat.le_refl _) (Nat.le_refl _)
  have hct:=hwk.cut (lo:=4096) (hi:=frH) (clX ..)
  rw[ctX]at hct
  exact skip F wb a n c a7 w7 L hct hown hF hlen hsc
 | true =>
  rw[hxb]at hrun hsc
  simp only[Bool.not_true,cond_false]at hrun
  rw[if_pos rfl]at hsc
  refine wp_seq ((A0e M0a _ _ hrun).stand (oRX ..) h6 fun a7 w7 h7=>?_)
  refine wp_seq (N4m L h7 hown hF (by omega) fun F' wb' a' c' act' w' L' hst' hown' hF'=>?_)
  have hrun:=rr21 szOk (fun p=>B0d p.1) (bsL S0) a' (n+1) c' o i m
  rw[wq]at hrun
  refine (A0e M0a _ _ hrun).stand (oR3 ..) hst' fun a8 w8 h8=>?_
  refine (hN (i+(m+5)) (fs++[x.a]) o F' wb' a' (n+1) c' a8 w8 (by omega) ⟨L',h8,hown',hF',by simp[hlen],by omega,by omega,by omega,?_⟩).1
  rw[heq,hsc,List.drop_drop]
  unfold catS D1p
  simp
theorem rmid(hS:S0.length≤1099511627776){i:Nat}{fs:List Fr}{o:Nat}{F:Nat→Prop}{wb:World}{a:Option Addr}{n c:Nat}{act:Act}{w:World}(L:Live W0 F wb)(h1:A0t F wb 83 (rS (bsL S0) a n c o i []) act w)
  (hown:wb.ownsRow W0.heap.size 74 2 (.slice a n c) n (D0x fs)) (hF:∀r,(Value.slice a n c).ownBlock=some r→F r) (hlen:fs.length=n) (hb1:n≤i) (hb2:o≤i) (hi:i<S0.length) (heq:B0w S0=catS fs o (B0w (S0.drop i)))
  (hb:S0[i]=165) (skip:D3u S0 W0 i fs o Q) (hN:GoR W0 S0 i Q) (hR:∀act' w',W1x W0 (B0w S0) act' w'→Q .ret act' w'):(Code.seq rc8 (.seq rc10 (.seq rc11 (.seq rc14 (.seq rc16 (.seq rc17 (.seq (.region 20 rO20 false) rc21))))))).wp Tryz.prog Q act w:=by
 have hsz:=B0z S0
 have hd:S0.drop i=S0[i] :: S0.drop (i+1):=List.drop_eq_getElem_cons hi
 rw[hb]at hd
 have hsc:=Z0e (S0.drop (i+1))
 rw[← hd]at hsc
 have hdl:(S0.drop i).length=S0.length-i:=List.length_drop ..
 have hg2:(S0.drop i).getD 2 0=S0.getD (i+2) 0:=by
  rw[List.getD_eq_getElem?_getD,List.getElem?_drop,← List.getD_eq_getElem?_getD]
 have wsz:IntKind.i64.wrap (((bsL S0).size:Int)-(i:Int))=((S0.length-i:Nat):Int):=by rw[C0k,hsz];omega
 have hrun:=rr8 szOk (fun p=>B0d p.1) (bsL S0) a n c o i
 rw[wsz]at hrun
 by_cases c3:S0.length-i<3
 ·rw[decide_eq_true (p:=((S0.length-i:Nat):Int)<3) (by omega),cond_true,decide_eq_true (p:=0≤(i:Int)∧(i:Int)≤((bsL S0).size:Int)∧((bsL S0).size:Int)≤((bsL S0).size:Int)) (by omega),cond_true,Int.toNat_natCast,Int.toNat_natCast,V0q]at hrun
  refine wp_seq ((A0e M0a _ _ hrun).stand (oR8 ..) h1 fun a2 w2 h2=>hR a2 w2 ?_)
  have hx:B0w S0=(fs,S0.drop i,o):=by rw[heq,hsc,if_pos (by omega)];simp[catS]
  rw[hx]
  exact C1n L h2 hown hF hlen (rR8 ..)
 rw[decide_eq_false (p:=((S0.length-i:Nat):Int)<3) (by omega),cond_false]at hrun
 rw[if_neg (by omega),hg2]at hsc
 refine wp_seq ((A0e M0a _ _ hrun).stand (oR3 ..) h1 fun a2 w2 h2=>?_)
 have hrun:=rr10 szOk (fun p=>B0d p.1) (bsL S0) a n c o i
 have wi2:IntKind.i64.wrap ((i:Int)+2)=((i+2:Nat):Int):=by rw[C0k];omega
 rw[wi2,decide_eq_true (p:=0≤((i+2:Nat):Int)∧((i+2:Nat):Int)<((bsL S0).size:Int)) (by omega),cond_true]at hrun
 have hby2:J0n (bsL S0) ((i+2:Nat):Int)=((S0.getD (i+2) 0).toNat:Int):=by
  unfold J0n
  rw[G0b,Int.toNat_natCast]
 rw[hby2]at hrun
 have hm0:=(S0.getD (i+2) 0).toNat_lt
 generalize (S0.getD (i+2) 0).toNat=m at hm0 hrun hsc
 rw[show IntKind.i64.wrap (m:Int)=(m:Int) by rw[C0k];omega]at hrun
 refine wp_seq ((A0e M0a _ _ hrun).stand (oR10 ..) h2 fun a3 w3 h3=>?_)
 have hrun:=rr11 szOk (fun p=>B0d p.1) (bsL S0) a n c o i m
 rw[wad (x:=o) (by omega),wad (x:=i) (by omega)]at hrun
 by_cases c64:64<m
 ·rw[decide_eq_true (p:=(m:Int)>64) (by omega),cond_true]at hrun
  rw[if_pos c64]at hsc
  refine wp_seq ((A0e M0a _ _ hrun).stand (oR10 ..) h3 fun a4 w4 h4=>?_)
  have h4':=h4.weak (s':=rS (bsL S0) a n c (o+1:Nat) (i+1:Nat) []) (by rw[← wkR (m:=m)];exact C0e _ _ _) (Nat.le_refl _) (Nat.le_refl _)
  exact skip F wb a n c a4 w4 L h4' hown hF hlen hsc
 rw[decide_eq_false (p:=(m:Int)>64) (by omega),cond_false]at hrun
 rw[if_neg c64]at hsc
 refine wp_seq ((A0e M0a _ _ hrun).stand (oR10 ..) h3 fun a4 w4 h4=>?_)
 have hrun:=rr14 szOk (fun p=>B0d p.1) (bsL S0) a n c o i m
 have wm5:IntKind.i64.wrap ((m:Int)+5)=((m+5:Nat):Int):=by rw[C0k];omega
 rw[wsz,wm5]at hrun
 by_cases c5:S0.length-i<m+5
 ·rw[decide_eq_true (p:=((S0.length-i:Nat):Int)<((m+5:Nat):Int)) (by omega),cond_true,decide_eq_true (p:=0≤(i:Int)∧(i:Int)≤((bsL S0).size:Int)∧((bsL S0).size:Int)≤((bsL S0).size:Int)) (by omega),cond_true,Int.toNat_natCast,Int.toNat_natCast,V0q]at hrun
  refine wp_seq ((A0e M0a _ _ hrun).stand (oR14 ..) h4 fun a5 w5 h5=>hR a5 w5 ?_)
  have hx:B0w S0=(fs,S0.drop i,o):=by rw[heq,hsc,if_pos (by omega)];simp[catS]
  rw[hx]
  exact C1n L h5 hown hF hlen (rR14 ..)
 rw[decide_eq_false (p:=((S0.length-i:Nat):Int)<((m+5:Nat):Int)) (by omega),cond_false]at hrun
 rw[if_neg (by omega)]at hsc
 refine wp_seq ((A0e M0a _ _ hrun).stand (oR10 ..) h4 fun a5 w5 h5=>?_)
 exact L5z hS L h5 hown hF hlen hb1 hb2 hm0 (by omega) heq hsc skip hN
theorem L5x(hS:S0.length≤1099511627776){i:Nat}{fs:List Fr}{o:Nat}{F:Nat→Prop}{wb:World}{a:Option Addr}{n c:Nat}{act:Act}{w:World}(hi:i<S0.length)(I:C2v W0 S0 i fs o F wb a n c act w)
  (hN:GoR W0 S0 i Q) (hR:∀act' w',W1x W0 (B0w S0) act' w'→Q .ret act' w'):rI.wp Tryz.prog Q act w:=by
 obtain ⟨L,hst,hown,hF,hlen,hb1,hb2,hb3,heq⟩:=I
 have hsz:=B0z S0
 rw[K5h]
 have hrun:=rr5 szOk (fun p=>B0d p.1) (bsL S0) a n c o i
 rw[decide_eq_true (p:=0≤(i:Int)∧(i:Int)<((bsL S0).size:Int)) (by omega),cond_true]at hrun
 have hbyte:J0n (bsL S0) i=(S0[i].toNat:Int):=by
  unfold J0n
  rw[G0b,Int.toNat_natCast,List.getD_eq_getElem?_getD,List.getElem?_eq_getElem hi]
  rfl
 rw[hbyte]at hrun
 have skip:D3u S0 W0 i fs o Q:=by
  intro F' wb' a' n' c' act' w' L' h' hown' hF' hl' hsk
  refine (hN (i+1) fs (o+1) F' wb' a' n' c' act' w' (by omega) ⟨L',h',hown',hF',hl',by omega,by omega,by omega,?_⟩).2
  rw[heq,hsk]
  unfold catS N0m
  simp only[Prod.mk.injEq,true_and]
  omega
 by_cases hb:S0[i]=165
 ·have e165:((S0[i].toNat:Int)==165)=true:=by rw[hb];rfl
  rw[e165,Bool.not_true,cond_false]at hrun
  exact wp_seq ((A0e M0a _ _ hrun).stand (oR3 ..) hst fun a1 w1 h1=>rmid hS L h1 hown hF hlen hb1 hb2 hi heq hb skip hN hR)
 ·have e165:((S0[i].toNat:Int)==165)=false:=by
   refine beq_eq_false_iff_ne.2 fun h=>hb (UInt8.toNat_inj.1 ?_)
   show S0[i].toNat=165
   omega
  rw[e165,Bool.not_false,cond_true,wad (x:=o) (by omega),wad (x:=i) (by omega)]at hrun
  refine wp_seq ((A0e M0a _ _ hrun).stand (oR3 ..) hst fun a1 w1 h1=>?_)
  have hd:S0.drop i=S0[i] :: S0.drop (i+1):=List.drop_eq_getElem_cons hi
  exact skip F wb a n c a1 w1 L h1 hown hF hlen (by rw[hd,M0w hb])
end
theorem Q3q{W0:World}{S0:List UInt8}(hS:S0.length≤1099511627776){Q:Exit→Act→World→Prop}(hR:∀act' w',W1x W0 (B0w S0) act' w'→Q .ret act' w')
  (hE:∀(fs:List Fr) (o:Nat) (F:Nat→Prop) (wb:World) (a:Option Addr) (n c:Nat) (act:Act) (w:World),C2v W0 S0 S0.length fs o F wb a n c act w→Q (.exit 0) act w) :
  ∀(k i:Nat) (fs:List Fr) (o:Nat) (F:Nat→Prop) (wb:World) (a:Option Addr) (n c:Nat) (act:Act) (w:World),S0.length-i≤k→C2v W0 S0 i fs o F wb a n c act w→Code.rounds Tryz.prog (.seq rc4 (.block 1 rI)) Q (k+1) act w:=by
 have hsz:=B0z S0
 intro k
 induction k with
 | zero =>
  intro i fs o F wb a n c act w hk I
  have hi:i=S0.length:=by have :=I.b3;omega
  subst hi
  rw[rounds_succ]
  have hrun:=rr4 szOk (fun p=>B0d p.1) (bsL S0) a n c o S0.length
  rw[decide_eq_false (p:=(S0.length:Int)<((bsL S0).size:Int)) (by omega),cond_false]at hrun
  exact wp_seq ((A0e M0a _ _ hrun).stand (oR3 ..) I.stand fun a1 w1 h1=>hE fs o F wb a n c a1 w1 {I with stand:=h1})
 | succ k ih =>
  intro i fs o F wb a n c act w hk I
  rw[rounds_succ]
  have hrun:=rr4 szOk (fun p=>B0d p.1) (bsL S0) a n c o i
  by_cases hi:i<S0.length
  ·rw[decide_eq_true (p:=(i:Int)<((bsL S0).size:Int)) (by omega),cond_true]at hrun
   refine wp_seq ((A0e M0a _ _ hrun).stand (oR3 ..) I.stand fun a1 w1 h1=>?_)
   refine wp_block (L5x hS hi {I with stand:=h1} (fun i' fs' o' F' wb' a' n' c' act' w' h I'=>?_) fun act' w' h=>hR act' w' h)
   have :=ih i' fs' o' F' wb' a' n' c' act' w' (by omega) I'
   exact ⟨this,this⟩
  ·have hi:i=S0.length:=by have :=I.b3;omega
   subst hi
   rw[decide_eq_false (p:=(S0.length:Int)<((bsL S0).size:Int)) (by omega),cond_false]at hrun
   exact wp_seq ((A0e M0a _ _ hrun).stand (oR3 ..) I.stand fun a1 w1 h1=>hE fs o F wb a n c a1 w1 {I with stand:=h1})
theorem B3y:Tryz.prog.funcs[41]?=some Tryz.f41:=by kernel_rfl
theorem V1t(s:ByteArray)(hS:s.size≤1099511627776)(w:World):Calls Tryz.prog 41 #[.string s] w fun e w'=>∃v,e=.returned v∧RowKit.Below w.heap.size w w'∧M1k w (B0w s.data.toList) v w':=by
 refine calls_of_wp B3y K5g ?_
 have hst:=A0t.start (N:=83) [.string s] w 4096 frH frT (by simp)
 refine wp_seq ((A0e M0a _ _ (rr0 szOk (fun p=>B0d p.1) s)).stand (oR0 ..) hst fun a1 w1 h1=>?_)
 refine wp_seq ((A0e M0a _ _ (rr1 szOk (fun p=>B0d p.1) s)).stand (oR1 ..) h1 fun a2 w2 h2=>?_)
 refine wp_seq ((A0e M0a _ _ (rr2 szOk (fun p=>B0d p.1) s)).stand (oR2 ..) h2 fun a3 w3 h3=>?_)
 refine wp_seq ((A0e M0a _ _ (rr3 szOk (fun p=>B0d p.1) s)).stand (oR3 ..) h3 fun a4 w4 h4=>?_)
 have hl:s.data.toList.length=s.size:=rfl
 have I:C2v w s.data.toList 0 [] 0 (fun k=>k<w.heap.size) w none 0 0 a4 w4:=⟨Live.start w,by rw[H0y];exact h4,⟨rfl,.inl ⟨rfl,rfl⟩⟩,fun r hr=>by (cases hr),rfl,by omega,by omega,by omega,by simp[catS]⟩
 refine wp_seq (wp_block (wp_loop_rounds (s.size+1) (Q3q (W0:=w) (S0:=s.data.toList) (by omega) (fun act' w' h=>?_) (fun fs o F wb a n c act' w' I'=>?_) s.size 0 [] 0 _ w none 0 0 a4 w4 (by omega) I)))
 ·obtain ⟨v,y1,y2,y3,y4⟩:=h
  exact (bodyPost_ret y1 y2 ⟨v,rfl,y3,y4⟩:bodyPost Tryz.prog Tryz.f41 (fun e w'=>∃v,e=.returned v∧RowKit.Below w.heap.size w w'∧M1k w (B0w s.data.toList) v w') .ret act' w')
 ·show rc22.wp Tryz.prog _ act' w'
  refine (A0e M0a _ _ (rr22 szOk (fun p=>B0d p.1) (bsL s.data.toList) a n c o (s.data.toList.length:Nat))).stand (oR22 ..) I'.stand fun a5 w5 h5=>?_
  have hx:B0w s.data.toList=(fs,[],o):=by rw[I'.eq,List.drop_length,L0y];simp[catS]
  obtain ⟨v,y1,y2,y3,y4⟩:=C1n (l:=[]) I'.live h5 I'.own I'.prot I'.len (rR22 ..)
  rw[← hx]at y4
  exact (bodyPost_ret y1 y2 ⟨v,rfl,y3,y4⟩:bodyPost Tryz.prog Tryz.f41 (fun e w'=>∃v,e=.returned v∧RowKit.Below w.heap.size w w'∧M1k w (B0w s.data.toList) v w') .ret a5 w5)
structure Y0t(w:World)(v:Value)(fs:List Fr):Prop where
 small:fs.length≤1099511627776
 lies:(∃c,v=.slice none 0 c∧fs=[])∨∃r c cur,v=.slice (some ⟨r,0,none⟩) fs.length c∧w.heap[r]?=some (.cells cur 74 (0,0))∧cur.toList.take (fs.length*2)=D0x fs
theorem Y0t.keep{w w':World}{v:Value}{fs:List Fr}(h:Y0t w v fs)(hk:∀r,v.ownBlock=some r→w'.heap[r]?=w.heap[r]?):Y0t w' v fs:=by
 refine ⟨h.small,?_⟩
 rcases h.lies with h2 | ⟨r,c,cur,rfl,h3,h4⟩
 ·exact .inl h2
 ·exact .inr ⟨r,c,cur,rfl,by rw[hk r rfl];exact h3,h4⟩
theorem M1r:∀(fs:List Fr) (i:Nat) (hi:i<fs.length),(D0x fs)[i*2+0]?=some (.int .i64 fs[i].kind)∧(D0x fs)[i*2+1]?=some (.string fs[i].data)
 | [],i,hi=>by simp at hi
 | f :: fs,0,_=>⟨rfl,rfl⟩
 | f :: fs,i+1,hi=>by
  have ih:=M1r fs i (by simpa using hi)
  have e:D0x (f :: fs)=.int .i64 f.kind :: .string f.data :: D0x fs:=rfl
  rw[e,show (i+1)*2+0=i*2+0+1+1 by omega,show (i+1)*2+1=i*2+1+1+1 by omega]
  exact ih
theorem E3h{w:World}{r:Nat}{cur:Array Value}{fs:List Fr}(h:w.heap[r]?=some (.cells cur 74 (0,0)))(ht:cur.toList.take (fs.length*2)=D0x fs){i:Nat}(hi:i<fs.length) :
  w.cell? ⟨r,i*2+0,none⟩=some (.int .i64 fs[i].kind)∧w.cell? ⟨r,i*2+1,none⟩=some (.string fs[i].data):=by
 obtain ⟨h1,h2⟩:=M1r fs i hi
 rw[← ht,List.getElem?_take,if_pos (by omega)]at h1 h2
 simp only[World.cell?,h]
 simp only[Array.getElem?_toList]at h1 h2
 exact ⟨by simpa using h1,by simpa using h2⟩
theorem Y0t.elem{w:World}{v:Value}{fs:List Fr}(h:Y0t w v fs){i:Nat}(hi:i<fs.length):∃r c,v=.slice (some ⟨r,0,none⟩) fs.length c∧r<w.heap.size∧w.cell? ⟨r,i*2+0,none⟩=some (.int .i64 fs[i].kind)∧w.cell? ⟨r,i*2+1,none⟩=some (.string fs[i].data):=by
 rcases h.lies with ⟨c,_,h2⟩ | ⟨r,c,cur,rfl,h3,h4⟩
 ·subst h2;simp at hi
 ·exact ⟨r,c,rfl,Y1v h3,E3h h3 h4 hi⟩
theorem Y0t.val{w:World}{v:Value}{fs:List Fr}(h:Y0t w v fs):∃a c,v=.slice a fs.length c:=by
 rcases h.lies with ⟨c,rfl,rfl⟩ | ⟨r,c,cur,rfl,_,_⟩
 ·exact ⟨none,c,rfl⟩
 ·exact ⟨_,c,rfl⟩
theorem Y1x{W0:World}{x:Scd}{v:Value}{w':World}(h:M1k W0 x v w')(hs:x.1.length≤1099511627776):∃l,v=.tuple #[l,.string (bsL x.2.1),.int .i64 (x.2.2:Int)]∧Y0t w' l x.1∧(∀r,l.ownBlock=some r→W0.heap.size≤r∧r<w'.heap.size)∧w'.ownsRow W0.heap.size 74 2 l x.1.length (D0x x.1):=by
 obtain ⟨a,c,rfl,hown⟩:=h
 refine ⟨_,rfl,⟨hs,?_⟩,?_,hown⟩
 ·rcases hown.2 with ⟨h1,h2⟩ | ⟨g,c',cur,e1,e2,e3,_,_,_,e5⟩
  ·have hx:x.1=[]:=List.eq_nil_of_length_eq_zero h2
   rw[h1,hx]
   exact .inl ⟨0,rfl,rfl⟩
  ·cases e1
   exact .inr ⟨g,c,cur,rfl,e3,e5⟩
 ·intro r hr
  rcases hown.2 with ⟨h1,h2⟩ | ⟨g,c',cur,e1,e2,e3,_,_,_,e5⟩
  ·rw[h1]at hr;cases hr
  ·cases e1;cases hr;exact ⟨e2,Y1v e3⟩
instance:Cod Rdg where
 enc r:=.agg (List.toArray (CodL.encl r))
 dec v:=match v with
  | .agg a=>Z0v Rdg a.toList
  | _=>none
 law v a h:=by
  split at h
  ·rename_i x
   rw[← M0j h]
  ·cases h
structure U0e where
 rj:CX→CX
 rd:Fr×Unit→Two Rdg Bool
 fr:Rdg×Int×Unit→Bool
 od:CX→Fr×Unit→CX
def hrG(F:U0e):Gam:=[(163,ySM F.rj),(164,S0 F.rd),(165,S0 F.fr),(166,SM (fun _ _=>true) fun x a=>(C2d,F.od x a))]
noncomputable def hrR:Nat→Code
 | 0=>Tryz.f88.body.getD .skip
 | k+1=>seqR (hrR k)
noncomputable def hrL(k:Nat):Code:=seqL (hrR k)
noncomputable def hrO0:Array Oper:=regO (hrL 0)
noncomputable def hrB:Code:=inB (inB (hrR 4))
noncomputable def hrP5:Code:=seqL hrB
noncomputable def hrPc:Code:=seqL (seqR hrB)
noncomputable def hrI1:Code:=inB (seqL (seqR (seqR hrB)))
noncomputable def H3r:Code:=seqR (seqR (seqR hrB))
noncomputable def hrO6:Array Oper:=regO (seqL hrI1)
noncomputable def hrP7:Code:=seqL (seqR hrI1)
noncomputable def hrK1:Code:=seqL (inB (seqR (seqR hrI1)))
noncomputable def hrKc:Code:=seqR (inB (seqR (seqR hrI1)))
theorem D5g:Tryz.f88.body=some (.seq (.region 0 hrO0 false) (.seq (hrL 1) (.seq (hrL 2) (.seq (hrL 3) (hrR 4))))):=by kernel_rfl
theorem B4q:hrR 4=.block 0 (.loop (.seq hrP5 (.seq hrPc (.seq (.block 1 (.seq (.region 6 hrO6 false) (.seq hrP7 (.block 2 (.seq hrK1 hrKc))))) H3r)))):=by kernel_rfl
theorem A4m:Tryz.prog.funcs[88]?=some Tryz.f88:=by kernel_rfl
theorem G3m : (Tryz.f162.body.isSome && !Tryz.f162.name == "runtime.NumGoroutine") = true := by kernel_rfl
def D2z:Call:={callee:=.value (.func 162),args:=#[.tmp 20],argTypes:=#[9]}
theorem D5a:B0a hrO0 9=some (.call D2z,some 21,true):=by kernel_rfl
theorem D5b:List.range hrO0.size=(List.range (hrO0.toList.take 9).length).map (0+·)++(9 :: ((List.range (hrO0.toList.drop 10).length).map (10+·)++[])):=by kernel_rfl
theorem D5c:B0a hrO6 0=some (.indexAddr 96 (.tmp 36) (.tmp 38),some 40,true):=by kernel_rfl
theorem D5d:B0a hrO6 1=some (.load 74 (.tmp 40),some 41,true):=by kernel_rfl
theorem D5e:List.range hrO6.size=0 :: 1 :: ((List.range (hrO6.toList.drop 2).length).map (2+·)++[]):=by kernel_rfl
def hH(x:CX):Hp:=[(0,.row 145 (Z1c x.1)),(1,.row 44 (C0x x.2.1)),(2,.obj (H1a x.2.2))]
def hS(x:CX)(tm:List (Nat×AV)):St:=gSt 79 ((0,.ptr 0 0) :: tm) (hH x) 4096
def hN1:Nat:=4096+1*2^180
def hS1(x:CX)(tm:List (Nat×AV)):St:=gSt 79 ((0,.ptr 0 0) :: tm) (hH x) hN1
def hF(x:CX)(k:Int)(d:ByteArray)(tm:List (Nat×AV)):St:=gSt 79 ((0,.ptr 0 0) :: (8,.ptr 4096 0) :: tm) [(0,.row 145 (Z1c x.1)),(1,.row 44 (C0x x.2.1)),(2,.obj (H1a x.2.2)),(4096,.row 74 [.val (.int .i64 k),.val (.string d)])] hN1
noncomputable abbrev H3q(ks ts:List Nat):St→List Foot→Option (Bool×St):=C0p ks (E0d 79 ts)
noncomputable abbrev T1w(F:U0e)(c:Code)(s:St)(ts:List Nat):Option (Ex×St):=gRun Tryz.prog {gam:=hrG F} 79 c s [0,1,2] ts
noncomputable abbrev C3j(F:U0e)(c:Code)(s:St)(ts:List Nat):Option (Ex×St):=gRun Tryz.prog {gam:=hrG F} 79 c s [0,1,2,4096] ts
noncomputable abbrev W2d(F:U0e)(c:Code)(s:St)(ts:List Nat):Option (Ex×St):=gCut Tryz.prog {gam:=hrG F} 79 c s hN1 [0,1,2] ts
def hrT(a:Option Addr)(n c:Nat)(i:Int):List (Nat×AV):=[(36,.val (.slice a n c)),(37,.val (.int .i64 n)),(38,.val (.int .i64 i))]
def P3q(x:CX)(r:Rdg):CX:=(x.1,x.2.1,{x.2.2 with p1:=true,r1:=r})
def P3r(x:CX)(r:Rdg):CX:=(x.1,x.2.1,{x.2.2 with p2:=true,r2:=r})
def P3t(x:CX)(r:Rdg):CX:=(x.1,x.2.1,{x.2.2 with p3:=true,r3:=r})
def X0p(F:U0e)(x:CX)(f:Fr)(p:CX):CX:=bif (F.rd (f,())).b then bif F.fr ((F.rd (f,())).a,x.1.tk,()) then p else F.rj x else F.rj x
def N0d(F:U0e)(x:CX)(f:Fr):CX :=
 bif f.kind==1 then X0p F x f (P3q x (F.rd (f,())).a) else bif f.kind==2 then X0p F x f (P3r x (F.rd (f,())).a) else bif f.kind==3 then X0p F x f (P3t x (F.rd (f,())).a) else
 bif f.kind==16 then F.od x (f,()) else F.rj x
def Q2n(F:U0e)(x:CX)(f:Fr)(p:CX)(tm:List (Nat×AV)):Option (Ex×St):=bif (F.rd (f,())).b then bif F.fr ((F.rd (f,())).a,x.1.tk,()) then some (.normal,hS1 p tm) else some (.normal,hS1 (F.rj x) tm) else some (.normal,hS1 (F.rj x) tm)
section
variable (F:U0e) (x:CX) (b l d:ByteArray) (a:Option Addr) (ad:Addr) (n c:Nat) (o i k:Int) (t:Bool)
theorem D5k:B0j Tryz.prog (B0v Tryz.prog {gam:=hrG F} 4 (Bool×St)) (B0p (hrG F)) 79 hrO0 (hrO0.toList.take 9) (B0t 79 [.ptr 0 0,.val (.string b)] (stpX x)) [] (H3q [0,1,2] [0,20])=bif decide (((x.2.1.left.size+b.size:Nat):Int)>9223372036854775807) then none else some (true,hS x [(20,.val (.string (x.2.1.left++b)))]):=by kernel_rfl
theorem B4w(v:ByteArray):B0j Tryz.prog (B0v Tryz.prog {gam:=hrG F} 4 (Bool×St)) (B0p (hrG F)) 79 hrO0 (hrO0.toList.drop 10) {hS x [(20,.val (.string v))]with tmps:=(hS x [(20,.val (.string v))]).tmps.set 21 (.val (.tuple #[.slice a n c,.string l,.int .i64 o]))} [] (H3q [0,1,2] [0,4,5,6])=some (true,hS x [(4,.val (.slice a n c)),(5,.val (.string l)),(6,.val (.int .i64 o))]):=by kernel_rfl
theorem D5m:T1w F (hrL 1) (hS x [(4,.val (.slice a n c)),(5,.val (.string l)),(6,.val (.int .i64 o))]) [0,4,6]=some (.normal,hS (x.1,{x.2.1 with left:=l},x.2.2) [(4,.val (.slice a n c)),(6,.val (.int .i64 o))]):=by kernel_rfl
theorem D5n:T1w F (hrL 2) (hS x [(4,.val (.slice a n c)),(6,.val (.int .i64 o))]) [0,4]=bif decide (o>0) then some (.normal,hS (F.rj x) [(4,.val (.slice a n c))]) else some (.normal,hS x [(4,.val (.slice a n c))]):=by kernel_rfl
theorem D5p:T1w F (hrL 3) (hS x [(4,.val (.slice a n c))]) [0,36,37,38]=some (.normal,hS x (hrT a n c 0)):=by kernel_rfl
theorem B4y:T1w F hrP5 (hS x (hrT a n c i)) [0,36,37,38,39]=some (.normal,hS x (hrT a n c i++[(39,.val (.bool (decide (i<n))))])):=by kernel_rfl
theorem B4z:T1w F hrPc (hS x (hrT a n c i++[(39,.val (.bool t))])) [0,36,37,38]=bif t then some (.normal,hS x (hrT a n c i)) else some (.exit 0,hS x (hrT a n c i)):=by kernel_rfl
theorem D5q:B0j Tryz.prog (B0v Tryz.prog {gam:=hrG F} 4 (Bool×St)) (B0p (hrG F)) 79 hrO6 (hrO6.toList.drop 2) {hS x (hrT a n c i) with tmps:=((hS x (hrT a n c i)).tmps.set 40 (.val (.pointer (some ad)))).set 41 (.val (.agg (List.toArray [.int .i64 k,.string d])))} [] (H3q [0,1,2,4096] [0,8,36,37,38])=some (true,hF x k d (hrT a n c i)):=by kernel_rfl
theorem D5r:C3j F hrP7 (hF x k d (hrT a n c i)) [0,8,36,37,38,43]=some (.normal,hF x k d (hrT a n c i++[(43,.val (.int .i64 k))])):=by kernel_rfl
theorem D5h:C3j F hrK1 (hF x k d (hrT a n c i++[(43,.val (.int .i64 k))])) [0,8,36,37,38,43,46]=bif k==1 then some (.normal,hF x k d (hrT a n c i++[(43,.val (.int .i64 k)),(46,.val (.bool true))])) else bif k==2 then some (.normal,hF x k d (hrT a n c i++[(43,.val (.int .i64 k)),(46,.val (.bool true))])) else some (.normal,hF x k d (hrT a n c i++[(43,.val (.int .i64 k)),(46,.val (.bool (k==3)))])):=by kernel_rfl
theorem D5j:W2d F hrKc (hF x k d (hrT a n c i++[(43,.val (.int .i64 k)),(46,.val (.bool false))])) [0,36,37,38]=bif k==16 then some (.normal,hS1 (F.od x (⟨k,d⟩,())) (hrT a n c i)) else some (.normal,hS1 (F.rj x) (hrT a n c i)):=by kernel_rfl
theorem B4t:W2d F hrKc (hF x 1 d (hrT a n c i++[(43,.val (.int .i64 1)),(46,.val (.bool true))])) [0,36,37,38]=Q2n F x ⟨1,d⟩ (P3q x (F.rd (⟨1,d⟩,())).a) (hrT a n c i):=by kernel_rfl
theorem B4u:W2d F hrKc (hF x 2 d (hrT a n c i++[(43,.val (.int .i64 2)),(46,.val (.bool true))])) [0,36,37,38]=Q2n F x ⟨2,d⟩ (P3r x (F.rd (⟨2,d⟩,())).a) (hrT a n c i):=by kernel_rfl
theorem B4v:W2d F hrKc (hF x 3 d (hrT a n c i++[(43,.val (.int .i64 3)),(46,.val (.bool true))])) [0,36,37,38]=Q2n F x ⟨3,d⟩ (P3t x (F.rd (⟨3,d⟩,())).a) (hrT a n c i):=by kernel_rfl
theorem B4x:T1w F H3r (hS x (hrT a n c i)) [0,36,37,38]=some (.normal,hS x (hrT a n c (IntKind.i64.wrap (i+1)))):=by kernel_rfl
theorem Y1a:A0p hN1 (hS1 x (hrT a n c i))=true:=by kernel_rfl
theorem H3t:A0p 4096 (hS1 x (hrT a n c i))=true:=by kernel_rfl
end
section
variable {F:U0e} (hG:GamOk Tryz.prog (hrG F))
include hG
theorem T1x:∀β,D0t Tryz.prog (B0v Tryz.prog {gam:=hrG F} 4 β):=B0b (E:={gam:=hrG F}) hG 4
theorem W2e(x:CX)(k:Int)(d:ByteArray)(a:Option Addr)(n c:Nat)(i:Int):A0b Tryz.prog 79 (.seq hrP7 (.block 2 (.seq hrK1 hrKc))) (hF x k d (hrT a n c i)) .normal (hS1 (N0d F x ⟨k,d⟩) (hrT a n c i)):=by
 have h7:=A0a (E:={gam:=hrG F}) hG (D5r F x d a n c i k)
 have hk:=D5h F x d a n c i k
 have hsens:∀(p:CX),(Q2n F x ⟨k,d⟩ p (hrT a n c i))=some (.normal,hS1 (X0p F x ⟨k,d⟩ p) (hrT a n c i)):=by
  intro p
  unfold Q2n X0p
  cases (F.rd (⟨k,d⟩,())).b
  ·rfl
  ·cases F.fr ((F.rd (⟨k,d⟩,())).a,x.1.tk,())<;>rfl
 by_cases h1:k=1
 ·subst h1
  have e:N0d F x ⟨1,d⟩=X0p F x ⟨1,d⟩ (P3q x (F.rd (⟨1,d⟩,())).a):=rfl
  rw[e]
  exact .seq h7 (.block (.seq (A0a (E:={gam:=hrG F}) hG hk) (A0c (E:={gam:=hrG F}) hG ((B4t F x d a n c i).trans (hsens _)) rfl (Y1a ..) rfl)) (.inl rfl))
 by_cases h2:k=2
 ·subst h2
  have e:N0d F x ⟨2,d⟩=X0p F x ⟨2,d⟩ (P3r x (F.rd (⟨2,d⟩,())).a):=rfl
  rw[e]
  exact .seq h7 (.block (.seq (A0a (E:={gam:=hrG F}) hG hk) (A0c (E:={gam:=hrG F}) hG ((B4u F x d a n c i).trans (hsens _)) rfl (Y1a ..) rfl)) (.inl rfl))
 by_cases h3:k=3
 ·subst h3
  have e:N0d F x ⟨3,d⟩=X0p F x ⟨3,d⟩ (P3t x (F.rd (⟨3,d⟩,())).a):=rfl
  rw[e]
  exact .seq h7 (.block (.seq (A0a (E:={gam:=hrG F}) hG hk) (A0c (E:={gam:=hrG F}) hG ((B4v F x d a n c i).trans (hsens _)) rfl (Y1a ..) rfl)) (.inl rfl))
 have b1:(k==1)=false:=beq_eq_false_iff_ne.2 h1
 have b2:(k==2)=false:=beq_eq_false_iff_ne.2 h2
 have b3:(k==3)=false:=beq_eq_false_iff_ne.2 h3
 rw[b1,b2,b3]at hk
 simp only[cond_false]at hk
 have hn:=D5j F x d a n c i k
 have e:N0d F x ⟨k,d⟩=bif k==16 then F.od x (⟨k,d⟩,()) else F.rj x:=by
  unfold N0d
  dsimp only
  rw[b1,b2,b3]
  rfl
 rw[e]
 refine .seq h7 (.block (.seq (A0a (E:={gam:=hrG F}) hG hk) (A0c (E:={gam:=hrG F}) hG (hn.trans ?_) rfl (Y1a ..) rfl)) (.inl rfl))
 cases k==16<;>rfl
omit hG in
theorem Q1u{w:World}{ad:Addr}{k:Int}{d:ByteArray}(h0:w.cell? (ad.add 0)=some (.int .i64 k))(h1:w.cell? (ad.add 1)=some (.string d)):(loadVar 74 ad).run Tryz.prog w=.ok (.agg (List.toArray [.int .i64 k,.string d])) w:=by
 obtain ⟨ti,hti,hs,_,_⟩:=E1y
 obtain ⟨td,htd,hag⟩:=D3j
 unfold loadVar
 rw[Sem.run_bind,M0v htd w,hag]
 simp only[Result.andThen_ok,if_true,Sem.run_bind,B0q hti w]
 have :=Q0m (P:=Tryz.prog) (w:=w) (a:=ad) ti.size 0 [.int .i64 k,.string d] #[] (by rw[hs];rfl) fun j c hj=>by
  match j,hj with
  | 0,hj=>cases hj;exact h0
  | 1,hj=>cases hj;exact h1
  | j+2,hj=>simp at hj
 unfold loadCells
 rw[this]
 simp
theorem H2m{w1:World}{own1:Nat→Prop}{σ1:Nat→Option Nat}{hi1:Nat}{fs:List Fr}{a:Option Addr}{c:Nat}(hat:Y0t w1 (.slice a fs.length c) fs)(hno:∀r,(Value.slice a fs.length c).ownBlock=some r→r<w1.heap.size∧¬ own1 r)
  (hnone:∀b,4096≤b→b<hi1→σ1 b=none) (hhi:hi1=4096+2^200) {Q:Exit→Act→World→Prop} :
  ∀(m i:Nat) (x:CX) (act:Act) (w:World),i+m=fs.length→(∀a' w',A0j 79 w1 own1 σ1 4096 hi1 (hS ((fs.drop i).foldl (N0d F) x) (hrT a fs.length c fs.length)) a' w'→Q (.exit 0) a' w') →
   A0j 79 w1 own1 σ1 4096 hi1 (hS x (hrT a fs.length c i)) act w→Code.rounds Tryz.prog (.seq hrP5 (.seq hrPc (.seq (.block 1 (.seq (.region 6 hrO6 false) (.seq hrP7 (.block 2 (.seq hrK1 hrKc))))) H3r))) Q (m+1) act w:=by
 intro m
 induction m with
 | zero =>
  intro i x act w hi hQ hst
  have hi':i=fs.length:=by omega
  rw[rounds_succ]
  refine wp_seq (A0a (E:={gam:=hrG F}) hG (B4y F x a fs.length c i) w1 own1 σ1 4096 hi1 act w hst _ fun a1 w1' h1=>?_)
  have hb:decide ((i:Int)<(fs.length:Int))=false:=decide_eq_false (by omega)
  rw[hb]at h1
  refine wp_seq (A0a (E:={gam:=hrG F}) hG (B4z F x a fs.length c i false) w1 own1 σ1 4096 hi1 a1 w1' h1 _ fun a2 w2 h2=>?_)
  refine hQ a2 w2 ?_
  rw[List.drop_of_length_le (by omega),← hi']
  rw[hi']at h2 ⊢
  exact h2
 | succ m ih =>
  intro i x act w hi hQ hst
  rw[rounds_succ]
  refine wp_seq (A0a (E:={gam:=hrG F}) hG (B4y F x a fs.length c i) w1 own1 σ1 4096 hi1 act w hst _ fun a1 w1' h1=>?_)
  have hlt:i<fs.length:=by omega
  have hb:decide ((i:Int)<(fs.length:Int))=true:=decide_eq_true (by omega)
  rw[hb]at h1
  refine wp_seq (A0a (E:={gam:=hrG F}) hG (B4z F x a fs.length c i true) w1 own1 σ1 4096 hi1 a1 w1' h1 _ fun a2 w2 h2=>?_)
  refine wp_seq (wp_block (wp_seq (wp_region ?_)))
  rw[D5e]
  have hat2:Y0t w2 (.slice a fs.length c) fs:=hat.keep fun r hr=>h2.far (hno r hr).1 (hno r hr).2
  obtain ⟨r,c',hv,_,hc0,hc1⟩:=hat2.elem hlt
  cases hv
  obtain ⟨ti,hti,hs,_,_⟩:=E1y
  obtain ⟨u96,hu96⟩:∃u,Tryz.prog.underlying 96=some u:=⟨_,v33⟩
  refine K0q D5c (by omega) (by kernel_rfl) v33 hti h2 (b:=⟨r,0,none⟩) (len:=fs.length) (cap:=c) (i:=i) (ik:=.i64) (h2.eval (t:=36) rfl) (h2.eval (t:=38) rfl) hlt _ fun a3 h3=>?_
  have ead:(⟨r,0,none⟩:Addr).add (i*ti.size)=⟨r,i*2,none⟩:=by rw[hs,G0a,Nat.zero_add]
  rw[ead]at h3
  refine N0g D5d (by omega) (by rw[List.length_set];kernel_rfl) h3 (b:=⟨r,i*2,none⟩) (h3.eval (t:=40) (by kernel_rfl)) (Q1u (k:=fs[i].kind) (d:=fs[i].data) hc0 hc1) _ fun a4 h4=>?_
  refine D0z (T1x hG _) [0,1,2,4096] _ (D5q F x fs[i].data (some ⟨r,0,none⟩) ⟨r,i*2,none⟩ fs.length c i fs[i].kind) (fun _ _ hj=>D0k hj) h4 [] fun a5 w5 h5=>?_
  change Code.wp Tryz.prog (.seq hrP7 (.block 2 (.seq hrK1 hrKc))) _ a5 w5
  refine W2e hG x fs[i].kind fs[i].data (some ⟨r,0,none⟩) fs.length c i w1 own1 σ1 4096 hi1 a5 w5 h5 _ fun a6 w6 h6=>?_
  simp only[Ex.to,Exit.inBlock]
  have h7:=h6.lower hnone (H3t ..) (by rw[hhi];rfl)
  have h8:A0j 79 w1 own1 σ1 4096 hi1 (hS (N0d F x fs[i]) (hrT (some ⟨r,0,none⟩) fs.length c i)) a6 w6:=h7
  refine A0a (E:={gam:=hrG F}) hG (B4x F _ (some ⟨r,0,none⟩) fs.length c i) w1 own1 σ1 4096 hi1 a6 w6 h8 _ fun a7 w7 h9=>?_
  have hw:IntKind.i64.wrap ((i:Int)+1)=((i+1:Nat):Int):=by have :=hat.small;rw[C0k];omega
  rw[hw]at h9
  refine ih (i+1) _ a7 w7 (by omega) (fun a' w' h'=>hQ a' w' ?_) h9
  rw[List.drop_eq_getElem_cons hlt,List.foldl_cons]
  exact h'
end
theorem B5c:Tryz.f88.ntmps=79:=by kernel_rfl
theorem H3u(x:CX)(a:Option Addr)(n c:Nat)(i:Int):G0k [0,1,2] (E0d 79 [0]) (hS x (hrT a n c i))=hS x []:=by kernel_rfl
theorem C4a(x:CX):resA Tryz.prog (hS x []) Tryz.f88.results.toList=some []:=by kernel_rfl
theorem H1b:∀(n:Nat) (l:List UInt8),l.length≤n→(B0w l).1.length≤l.length:=by
 intro n
 induction n with
 | zero =>
  intro l h
  have:l=[]:=List.eq_nil_of_length_eq_zero (by omega)
  subst this
  rw[L0y]
  exact Nat.le_refl _
 | succ n ih =>
  intro l h
  cases l with
  | nil=>rw[L0y];exact Nat.le_refl _
  | cons b r =>
   have hr:r.length≤n:=by simpa using h
   have hskip:∀x:Scd,(N0m x).1=x.1:=fun _=>rfl
   by_cases hb:b=165
   ·subst hb
    rw[Z0e]
    have h1:=ih r hr
    split
    ·simp
    ·split
     ·rw[hskip,List.length_cons];omega
     ·split
      ·simp
      ·split
       ·rename_i h3 _ _ _
        have hl:((165 :: r:List UInt8).drop (((165 :: r:List UInt8).getD 2 0).toNat+5)).length≤n:=by rw[List.length_drop];simp only[List.length_cons]at h3 ⊢;omega
        have h2:=ih _ hl
        unfold D1p
        rw[List.length_cons]
        rw[List.length_drop]at h2
        simp only[List.length_cons]at h3 h2 ⊢
        omega
       ·rw[hskip,List.length_cons];omega
   ·rw[M0w hb,hskip,List.length_cons]
    have :=ih r hr
    omega
def H2e(x:CX)(a:ByteArray×Unit):Bool:=decide (x.2.1.left.size+a.1.size≤1099511627776)
def H0z(F:U0e)(x:CX)(s:Scd):CX:=bif decide ((s.2.2:Int)>0) then F.rj (x.1,{x.2.1 with left:=bsL s.2.1},x.2.2) else (x.1,{x.2.1 with left:=bsL s.2.1},x.2.2)
def A2g(F:U0e)(x:CX)(s:Scd):CX:=s.1.foldl (N0d F) (H0z F x s)
def W0v(F:U0e)(x:CX)(a:ByteArray×Unit):CX:=A2g F x (B0w (x.2.1.left++a.1).data.toList)
section
variable {F:U0e} (hG:GamOk Tryz.prog (hrG F))
include hG
theorem B4r(x:CX)(b:ByteArray)(hs:x.2.1.left.size+b.size≤1099511627776) :
  A0b Tryz.prog 79 (.seq (.region 0 hrO0 false) (.seq (hrL 1) (.seq (hrL 2) (.seq (hrL 3) (hrR 4))))) (B0t 79 [.ptr 0 0,.val (.string b)] (stpX x)) .normal (hS (W0v F x (b,())) []):=by
 intro w0 own σ0 lo0 hi0 act w hst Q hQ
 have hq0:=D5k F x b
 rw[decide_eq_false (by omega),cond_false]at hq0
 have hsz:(x.2.1.left++b).size=x.2.1.left.size+b.size:=ByteArray.size_append
 refine wp_seq (wp_region ?_)
 rw[D5b]
 refine D0z (T1x hG _) [0,1,2] _ hq0 (fun _ _ hj=>L0b hj) hst _ fun a1 w1 h1=>?_
 have harg:D2z.args.map a1.eval=#[.string (x.2.1.left++b)]:=by
  have:a1.eval (.tmp 20)=.string (x.2.1.left++b):=h1.eval (t:=20) rfl
  simp[D2z,this]
 refine P0r D5a (by omega) (by kernel_rfl) h1 rfl B3x G3m harg (B2r (x.2.1.left++b) (by omega) w1) _ fun v a2 w2 own1 σ1 hX hB hbd hnone h2 back=>?_
 generalize hsc:B0w (x.2.1.left++b).data.toList=sc at hX
 have hlen:sc.1.length≤1099511627776:=by
  have h3:=H1b _ (x.2.1.left++b).data.toList (Nat.le_refl _)
  have h4:(x.2.1.left++b).data.toList.length=(x.2.1.left++b).size:=rfl
  rw[hsc]at h3
  omega
 obtain ⟨v',rfl,hat,hown,_⟩:=Y1x hX hlen
 obtain ⟨ad,c,rfl⟩:=hat.val
 refine D0z (T1x hG _) [0,1,2] _ (B4w F x (bsL sc.2.1) ad sc.1.length c sc.2.2 (x.2.1.left++b)) (fun _ _ hj=>D0k hj) h2 [] fun a3 w3 h3=>?_
 change Code.wp Tryz.prog (.seq (hrL 1) (.seq (hrL 2) (.seq (hrL 3) (hrR 4)))) _ a3 w3
 refine wp_seq (A0a (E:={gam:=hrG F}) hG (D5m F x (bsL sc.2.1) ad sc.1.length c sc.2.2) _ _ _ _ _ a3 w3 h3 _ fun a4 w4 h4=>?_)
 have e2:T1w F (hrL 2) (hS (x.1,{x.2.1 with left:=bsL sc.2.1},x.2.2) [(4,.val (.slice ad sc.1.length c)),(6,.val (.int .i64 sc.2.2))]) [0,4]=some (.normal,hS (H0z F x sc) [(4,.val (.slice ad sc.1.length c))]):=by
  rw[D5n]
  unfold H0z
  cases decide ((sc.2.2:Int)>0)<;>rfl
 refine wp_seq (A0a (E:={gam:=hrG F}) hG e2 _ _ _ _ _ a4 w4 h4 _ fun a5 w5 h5=>?_)
 refine wp_seq (A0a (E:={gam:=hrG F}) hG (D5p F (H0z F x sc) ad sc.1.length c) _ _ _ _ _ a5 w5 h5 _ fun a6 w6 h6=>?_)
 rw[B4q]
 refine wp_block (wp_loop_rounds (sc.1.length+1) (H2m hG hat (fun r hr=>?_) hnone rfl sc.1.length 0 (H0z F x sc) a6 w6 (by omega) (fun a7 w7 h7=>?_) h6))
 ·obtain ⟨g1,g2⟩:=hown r hr
  exact ⟨g2,fun ho=>by have :=hbd r ho;omega⟩
 ·simp only[Ex.to,Exit.inBlock,if_true]
  refine hQ a7 w7 (back _ _ _ ?_)
  rw[List.drop_zero]at h7
  have e:W0v F x (b,())=sc.1.foldl (N0d F) (H0z F x sc):=by unfold W0v A2g;dsimp only;rw[hsc]
  rw[e]
  refine h7.weak ?_ (Nat.le_refl _) (Nat.le_refl _)
  rw[← H3u _ ad sc.1.length c sc.1.length]
  exact C0e _ _ _
theorem K4x:A0h Tryz.prog 88 (SM H2e fun x a=>(C2d,W0v F x a)):=by
 intro args cs r cs' hs
 obtain ⟨x,⟨b,_⟩,hp,rfl,rfl,rfl,rfl⟩:=B3d hs
 refine E0k A4m D5g B5c (by show 2≤79;omega) (by simp[stpX,R0w]) rfl rfl rfl (.inl rfl) (B4r hG x b (of_decide_eq_true hp)) (C4a ..) rfl rfl (fun b' c hb=>?_) rfl rfl
 match b',hb with
 | 0,hb=>cases hb;rfl
 | 1,hb=>cases hb;rfl
 | 2,hb=>cases hb;rfl
 | n+3,hb=>simp[stpX,R0w]at hb
end
structure Odr where
 seq:Int
 code:Int
 orb:Orb
instance:CodL Odr:=M0h (β:=Int×Int×Orb) (fun v=>(v.seq,v.code,v.orb)) (fun p=>⟨p.1,p.2.1,p.2.2⟩) fun _=>rfl
instance:Cod Odr where
 enc r:=.agg (List.toArray (CodL.encl r))
 dec v:=match v with
  | .agg a=>Z0v Odr a.toList
  | _=>none
 law v a h:=by
  split at h
  ·rename_i x
   rw[← M0j h]
  ·cases h
def G2q(r:Rdg)(now:Int):Bool:=decide (IntKind.u64.wrap (IntKind.u64.wrap now-IntKind.u64.wrap r.tk)≤500)
theorem V2p(r:Rdg)(now:Int):fnSum Tryz.prog {gam:=[]} [] 20 165 [.val (Cod.enc r),.val (.int .i64 now)] []=bif decide (r.tk≤now) then some (.val (.bool (G2q r now)),[]) else some (.val (.bool false),[]):=by kernel_rfl
def D0y(p:Rdg×Int×Unit):Bool:=bif decide (p.1.tk≤p.2.1) then G2q p.1 p.2.1 else false
theorem N3e:A0h Tryz.prog 165 (S0 D0y):=H0n (E:={gam:=[]}) GamOk.nil 20 fun a=>by
 refine (V2p a.1 a.2.1).trans ?_
 unfold D0y
 cases decide (a.1.tk≤a.2.1)<;>rfl
def ackX(x:CX)(o:Two Odr Int):CX:=(x.1,{x.2.1 with ack:=o.a.seq,err:=o.b},x.2.2)
def sayX(x:CX)(n:Int):CX:=({x.1 with seen:={x.1.seen with order:=n}},x.2)
def orbX(x:CX)(o:Orb):CX:=(x.1,{x.2.1 with orb:=o,placed:=true},x.2.2)
def clrX(x:CX):CX:=(x.1,{x.2.1 with rej:=0,plan:={x.2.1.plan with faults:=0}},x.2.2)
def ordE(x:CX):Option (AV×List Con):=some (X0u,stpX x)
def H3a(rj:CX→CX)(ro:Fr×Unit→Two Odr Int):Gam:=[(163,ySM rj),(211,S0 ro)]
theorem Y2b(rj:CX→CX)(ro:Fr×Unit→Two Odr Int)(x:CX)(f:Fr):fnSum Tryz.prog {gam:=H3a rj ro} [] 20 166 [.ptr 0 0,.val (Cod.enc f)] (stpX x) =
  bif (ro (f,())).b != 0 then ordE (rj (ackX x (ro (f,())))) else bif (ro (f,())).a.code==1 then ordE (sayX (ackX x (ro (f,()))) (ro (f,())).a.code) else bif (ro (f,())).a.code==2 then ordE (sayX (ackX x (ro (f,()))) (ro (f,())).a.code) else
  bif (ro (f,())).a.code==3 then ordE (orbX (ackX x (ro (f,()))) (ro (f,())).a.orb) else bif (ro (f,())).a.code==4 then ordE (clrX (ackX x (ro (f,())))) else ordE (ackX x (ro (f,()))):=by kernel_rfl
def Q1c(rj:CX→CX)(x:CX)(o:Two Odr Int):CX :=
 bif o.b != 0 then rj (ackX x o) else bif o.a.code==1 then sayX (ackX x o) o.a.code else bif o.a.code==2 then sayX (ackX x o) o.a.code else bif o.a.code==3 then orbX (ackX x o) o.a.orb else bif o.a.code==4 then clrX (ackX x o) else ackX x o
theorem N2y(b:Bool)(x y:CX):(bif b then ordE x else ordE y)=ordE (bif b then x else y):=by cases b<;>rfl
theorem N3n{rj:CX→CX}{ro:Fr×Unit→Two Odr Int}(hG:GamOk Tryz.prog (H3a rj ro)):A0h Tryz.prog 166 (SM (fun _ _=>true) fun x (a:Fr×Unit)=>(C2d,Q1c rj x (ro a))):=C2w (E:={gam:=H3a rj ro}) hG 20 fun x a _=>by
 obtain ⟨f,_⟩:=a
 refine (Y2b rj ro x f).trans ?_
 simp only[N2y]
 rfl
end Go.Ab
namespace Go.Ab
open Go
section
variable {P:Program} {N:Nat}
structure D0b(P:Program)(N:Nat)(τ:Type)(n:Nat) where
 id:Nat
 id2:Nat
 idR:Nat
 T1:Code
 T2:Code
 rO:Array Oper
 BD:Code
 INC:Code
 ty:TypeId
 te:TypeId
 tS:Nat
 tI:Nat
 d1:Nat
 d2:Nat
 d3:Nat
 I:Int→τ→Option Addr→Nat→St
 I1:Int→τ→Option Addr→Nat→Bool→St
 J:Int→τ→Option Addr→Nat→Int→St
 K:Int→τ→Option Addr→Nat→St
 E:τ→St
 F:τ→Int→τ
structure D0b.Ok{τ:Type}{n:Nat}(L:D0b P N τ n):Prop where
 r0:B0a L.rO 0=some (.indexAddr L.ty (.tmp L.tS) (.tmp L.tI),some L.d1,true)
 r1:B0a L.rO 1=some (.load L.te (.tmp L.d1),some L.d2,true)
 r2:B0a L.rO 2=some (.assign (.tmp L.d2),some L.d3,true)
 rn:List.range L.rO.size=[0,1,2]
 u:P.underlying L.ty=some (.slice L.te)
 ue:P.underlying L.te=some (.int .u8)
 s1:(P.info? L.te).map (·.size)=some 1
 b1:L.d1<N
 b2:L.d2<N
 b3:L.d3<N
 n1:L.d1≠L.d2
 len:∀i z a c,(L.I i z a c).tmps.length=N
 hS:∀i z a c,(L.I i z a c).tmps[L.tS]?=some (.val (.slice a n c))
 hI:∀i z a c,(L.I i z a c).tmps[L.tI]?=some (.val (.int .i64 i))
 hJ:∀i z a c p v,Wk (L.J i z a c v).u ({L.I i z a c with tmps:=(((L.I i z a c).tmps.set L.d1 (.val p)).set L.d2 (.val (.int .u8 v))).set L.d3 (.val (.int .u8 v))}:St).u∧(L.I i z a c).lo≤(L.J i z a c v).lo∧(L.J i z a c v).hi≤(L.I i z a c).hi
 hT:∀i z a c,A0b P N L.T1 (L.I i z a c) .normal (L.I1 i z a c (decide (i<n)))
 hY:∀i z a c,A0b P N L.T2 (L.I1 i z a c true) .normal (L.I i z a c)
 hX:∀i z a c,A0b P N L.T2 (L.I1 i z a c false) (.exit L.id) (L.E z)
 hB:∀i z a c v,A0b P N L.BD (L.J i z a c v) .normal (L.K i (L.F z v) a c)
 hC:∀(i:Nat) z a c,i<n→A0b P N L.INC (L.K i z a c) .normal (L.I (i+1:Nat) z a c)
def D0b.code{τ:Type}{n:Nat}(L:D0b P N τ n):Code:=.seq L.T1 (.seq L.T2 (.seq (.block L.id2 (.seq (.region L.idR L.rO false) L.BD)) L.INC))
theorem D0b.rounds{τ:Type}{n:Nat}{L:D0b P N τ n}(h:L.Ok){w1:World}{own1:Nat→Prop}{σ1:Nat→Option Nat}{lo1 hi1:Nat}{l:List UInt8}(hl:l.length=n){r c:Nat}(hr:r<w1.heap.size)(ho:¬ own1 r)
  (hc:∀j,j<n→w1.cell? ⟨r,j,none⟩=some (.int .u8 (l.getD j 0).toNat)) {Q:Exit→Act→World→Prop} (z0:τ)
  (hE:∀a w,A0j N w1 own1 σ1 lo1 hi1 (L.E (l.foldl (fun z b=>L.F z b.toNat) z0)) a w→Q (.exit L.id) a w) :
  ∀(m i:Nat) (act:Act) (w:World),i+m=n→A0j N w1 own1 σ1 lo1 hi1 (L.I i ((l.take i).foldl (fun z b=>L.F z b.toNat) z0) (some ⟨r,0,none⟩) c) act w→Code.rounds P L.code Q (m+1) act w:=by
 intro m
 induction m with
 | zero =>
  intro i act w hi hst
  have hi':i=n:=by omega
  subst hi'
  rw[rounds_succ]
  unfold D0b.code
  refine wp_seq (h.hT _ _ _ _ w1 own1 σ1 lo1 hi1 act w hst _ fun a0 w0' h0=>?_)
  rw[decide_eq_false (by omega)]at h0
  refine wp_seq (h.hX _ _ _ _ w1 own1 σ1 lo1 hi1 a0 w0' h0 _ fun a1 w1' h1=>?_)
  rw[List.take_of_length_le (by omega)]at h1
  exact hE a1 w1' h1
 | succ m ih =>
  intro i act w hi hst
  rw[rounds_succ]
  unfold D0b.code
  generalize hz:(l.take i).foldl (fun z b=>L.F z b.toNat) z0=z at hst
  refine wp_seq (h.hT i z _ c w1 own1 σ1 lo1 hi1 act w hst _ fun a0 w0' h0=>?_)
  rw[decide_eq_true (by omega)]at h0
  refine wp_seq (h.hY i z _ c w1 own1 σ1 lo1 hi1 a0 w0' h0 _ fun a1 w2 h1=>?_)
  refine wp_seq (wp_block (wp_seq (wp_region ?_)))
  rw[h.rn]
  obtain ⟨ti,hti,hs1⟩:∃ti,P.info? L.te=some ti∧ti.size=1:=by
   have :=h.s1
   cases hi:P.info? L.te with
   | none=>rw[hi]at this;cases this
   | some ti=>rw[hi]at this;exact ⟨ti,rfl,by simpa using this⟩
  refine K0q h.r0 h.b1 (h.len ..) h.u hti h1 (b:=⟨r,0,none⟩) (len:=n) (cap:=c) (i:=i) (ik:=.i64) (h1.eval (h.hS ..)) (h1.eval (h.hI ..)) (by omega) _ fun a2 h2=>?_
  have hcell:w2.cell? ((⟨r,0,none⟩:Addr).add (i*ti.size))=some (.int .u8 ((l.getD i 0).toNat:Int)):=by
   rw[hs1,Nat.mul_one,G0a,Nat.zero_add]
   have h3:=hc i (by omega)
   have h4:=h1.far hr ho
   simp only[World.cell?,h4]at h3 ⊢
   exact h3
  refine N0g h.r1 h.b2 (by rw[List.length_set];exact h.len ..) h2 (b:=(⟨r,0,none⟩:Addr).add (i*ti.size)) ?_ (v:=.int .u8 ((l.getD i 0).toNat:Int)) (M0b h.ue rfl hcell) _ fun a3 h3=>?_
  ·exact h2.eval (by rw[List.getElem?_set_self (by rw[h.len];exact h.b1)])
  refine N2t h.r2 h.b3 (by rw[List.length_set,List.length_set];exact h.len ..) h3 (v:=.int .u8 ((l.getD i 0).toNat:Int)) (fun o hop=>?_) _ fun a4 h4=>?_
  ·have e:a3.eval (.tmp L.d2)=.int .u8 ((l.getD i 0).toNat:Int):=h3.eval (by rw[List.getElem?_set_self (by rw[List.length_set,h.len];exact h.b2)])
   simp only[execOp,hop,e,Sem.run_pure]
  obtain ⟨k1,k2,k3⟩:=h.hJ i z (some ⟨r,0,none⟩) c (.pointer (some ((⟨r,0,none⟩:Addr).add (i*ti.size)))) ((l.getD i 0).toNat:Int)
  have h5:=h4.weak k1 k2 k3
  change Code.wp P L.BD _ a4 w2
  refine h.hB i z _ c _ w1 own1 σ1 lo1 hi1 a4 w2 h5 _ fun a5 w5 h6=>?_
  simp only[Ex.to,Exit.inBlock]
  refine h.hC i _ _ c (by omega) w1 own1 σ1 lo1 hi1 a5 w5 h6 _ fun a6 w6 h7=>?_
  refine ih (i+1) a6 w6 (by omega) ?_
  have e:l.take (i+1)=l.take i++[l.getD i 0]:=T1b (by omega)
  rw[e,List.foldl_append,hz]
  exact h7
theorem D0b.run{τ:Type}{n:Nat}{L:D0b P N τ n}(h:L.Ok){w1:World}{own1:Nat→Prop}{σ1:Nat→Option Nat}{lo1 hi1:Nat}{l:List UInt8}(hl:l.length=n){r c:Nat}(hr:r<w1.heap.size)(ho:¬ own1 r)
  (hc:∀j,j<n→w1.cell? ⟨r,j,none⟩=some (.int .u8 (l.getD j 0).toNat)) {Q:Exit→Act→World→Prop} (z0:τ) {act:Act} {w:World} (hst:A0j N w1 own1 σ1 lo1 hi1 (L.I 0 z0 (some ⟨r,0,none⟩) c) act w)
  (hE:∀a w,A0j N w1 own1 σ1 lo1 hi1 (L.E (l.foldl (fun z b=>L.F z b.toNat) z0)) a w→Q .normal a w):(Code.block L.id (.loop L.code)).wp P Q act w:=by
 refine wp_block (wp_loop_rounds (n+1) (D0b.rounds h hl hr ho hc z0 (fun a w hh=>?_) n 0 act w (by omega) hst))
 simp only[Exit.inBlock,if_true]
 exact hE a w hh
theorem M1x{ops:Array Oper}{Q:Exit→Act→World→Prop}{w0:World}{own:Nat→Prop}{σ0:Nat→Option Nat}{lo0 hi0:Nat}{s:St}{a:Act}{w:World}{k d x:Nat}{src dst e:TypeId}{u:TypeDesc}(hs:B0a ops k=some (.convert src dst (.tmp x),some d,true))(hd:d<N)(hlen:s.tmps.length=N)
  (hh:A0j N w0 own σ0 lo0 hi0 s a w) {str:ByteArray} (hx:s.tmps[x]?=some (.val (.string str))) (us:P.underlying src=some u) (ud:P.underlying dst=some (.slice e)) (ue:P.underlying e=some (.int .u8)) (rest:List Nat)
  (hK:∀a' w' (own1:Nat→Prop) (σ1:Nat→Option Nat) (r c:Nat),r<w'.heap.size→¬ own1 r→(∀j,j<str.size→w'.cell? ⟨r,j,none⟩=some (.int .u8 (str.data.toList.getD j 0).toNat)) →
   (∀b,s.lo≤b→b<s.hi→σ1 b=none)→A0j N w' own1 σ1 s.lo s.hi {s with tmps:=s.tmps.set d (.val (.slice (some ⟨r,0,none⟩) str.size c))} a' w'→(∀s' a' w2,A0j N w' own1 σ1 s.lo s.hi s' a' w2→A0j N w0 own σ0 lo0 hi0 s' a' w2)→wpOps P ops Q rest a' w'):wpOps P ops Q (k :: rest) a w:=by
 obtain ⟨e1,e2,e3⟩:=P0q w e str
 refine P3g hs hd hlen hh (v:=.slice (some ⟨w.heap.size,0,none⟩) str.size (grownCap w str.size 0 e)) (w':=Lib.bytesWorld w e str) (fun o hop=>?_) e1 e2 e3 (by rw[Lib.bytesWorld_size];omega) (fun j hj=>Lib.bytesWorld_at_old w e str j hj) rest fun a' own1 σ1 k1 kn k2 k3=>?_
 ·have hxe:a.eval (.tmp x)=.string str:=hh.eval hx
  simp only[execOp,hop,hxe,Sem.run_bind,Lib.run_convert_string_bytes w src dst e str us ud ue,Result.andThen_ok,Sem.run_pure]
 ·refine hK a' _ own1 σ1 w.heap.size _ (by rw[Lib.bytesWorld_size];omega) (fun ho=>by have :=k1 _ ho;omega) (fun j hj=>Lib.bytesWorld_cell w e str j hj) kn k2 k3
end
end Go.Ab
