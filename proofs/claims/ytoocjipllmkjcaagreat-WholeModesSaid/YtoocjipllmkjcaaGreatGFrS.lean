/- A part of the proofs: lemmas, no statement of their own; no condition. -/
import Derived.Test.YtoocjipllmkjcaaGreatGDrA
import Derived.Test.YtoocjipllmkjcaaGreatGTrB
import Derived.Test.YtoocjipllmkjcaaGreatGBsA
import Derived.Test.YtoocjipllmkjcaaGreatGFrC
set_option linter.unusedSimpArgs false
namespace Go.Ab
open Go Go.Proofs
structure SInv(W0:World)(S0 l:List UInt8)(fs:List Fr)(o:Nat)(F:Nat→Prop)(wb:World)(a:Option Addr)(n c:Nat)(act:Act)(w:World):Prop where
 live:Live W0 F wb
 stand:Stand F wb 69 (sS (bsL l) a n c o []) act w
 own:wb.ownsRow W0.heap.size 74 2 (.slice a n c) n (cellsF fs)
 prot:∀r,(Value.slice a n c).ownBlock=some r→F r
 len:fs.length=n
 b1:n+l.length≤S0.length
 b2:o+l.length≤S0.length
 eq:scanV S0=catS fs o (scanV l)
theorem rest_bsL(l:List UInt8)(i:Nat):(bsL l).extract i (bsL l).size=bsL (l.drop i):=by
 rw[extract_bsL,size_bsL,List.take_of_length_le (by simp)]
theorem take_bsL(l:List UInt8)(i:Nat):(bsL l).extract 0 i=bsL (l.take i):=by
 rw[extract_bsL,List.drop_zero,Nat.sub_zero]
theorem byteI_bsL(l:List UInt8):byteI (bsL l) 2=(l.getD 2 0).toNat:=by unfold byteI;rw[data_bsL];rfl
theorem sr10'{s:ByteArray}{a:Option Addr}{n c:Nat}{o m:Int}(h:¬ (m>(s.size:Int)∧m≤69)):frRun (scGam idxV szOk fun p=>openV p.1) 69 sc10 (sS s a n c o [(8,.int .i64 m)]) [] [0,2,3,4,5,6,8]=some (.normal,sS s a n c o [(8,.int .i64 m)]):=by
 rw[sr10]
 by_cases c8:m>(s.size:Int)
 ·rw[decide_eq_true c8,decide_eq_false (p:=m≤69) fun g=>h ⟨c8,g⟩]
  simp only[cond_true,cond_false]
 ·rw[decide_eq_false c8]
  simp only[cond_false]
noncomputable def restS:Code:=.seq sc9 (.seq sc10 (.seq sc12 (.seq sc13 (.cond (.tmp 57) (.region 14 sO14 true) sc15))))
section
variable {W0:World} {S0:List UInt8} {Q:Exit→Act→World→Prop}
abbrev GoOn(W0:World)(S0:List UInt8)(k:Nat)(Q:Exit→Act→World→Prop):Prop:=∀l' fs' o' F' wb' a' n' c' act' w',l'.length<k→SInv W0 S0 l' fs' o' F' wb' a' n' c' act' w'→Q .normal act' w'
abbrev GoRet(W0:World)(S0:List UInt8)(Q:Exit→Act→World→Prop):Prop:=∀act' w',ScanR W0 (scanV S0) act' w'→Q .ret act' w'
theorem scan_tail(hS:S0.length≤1099511627776){l':List UInt8}{fs:List Fr}{o k:Nat}{F:Nat→Prop}{wb:World}{a:Option Addr}{n c:Nat}{act:Act}{w:World}{m:Nat}{x:Two Fr Bool}(L:Live W0 F wb)(h8:Stand F wb 69 (sY (bsL l') a n c o (m+5:Nat) x) act w)
  (hown:wb.ownsRow W0.heap.size 74 2 (.slice a n c) n (cellsF fs)) (hF:∀r,(Value.slice a n c).ownBlock=some r→F r) (hlen:fs.length=n) (hb1:n+l'.length≤S0.length) (hb2:o+l'.length≤S0.length) (hk:l'.length≤k) (h3:3≤l'.length)
  (hm5:x.b=true→m+5≤l'.length) (heq:scanV S0=catS fs o (if x.b then consS x.a (scanV (l'.drop (m+5))) else skipS (scanV (l'.drop 1)))) (hN:GoOn W0 S0 k Q):(Code.cond (.tmp 57) (.region 14 sO14 true) sc15).wp Tryz.prog Q act w:=by
 have hsz':=size_bsL l'
 cases hxb:x.b with
 | true =>
  rw[hxb,if_pos rfl]at heq
  have hm:=hm5 hxb
  refine wp_cond_true ((h8.eval (t:=57) rfl).trans (by rw[hxb])) (scan_found (m:=(m+5:Nat)) L h8 hown hF (by omega) (by omega) (by omega) fun F' wb' a' c' act' w' L' hst' hown' hF'=>?_)
  rw[Int.toNat_natCast,rest_bsL]at hst'
  have hd:(l'.drop (m+5)).length=l'.length-(m+5):=List.length_drop ..
  refine hN (l'.drop (m+5)) (fs++[x.a]) o F' wb' a' (n+1) c' act' w' (by omega) ⟨L',hst',hown',hF',by simp[hlen],by omega,by omega,?_⟩
  rw[heq]
  unfold catS consS
  simp
 | false =>
  rw[hxb,if_neg (by simp)]at heq
  have hrun:=sr15 idxV szOk (fun p=>openV p.1) (bsL l') a n c o (m+5:Nat) x
  rw[decide_eq_true (p:=0≤(1:Int)∧1≤((bsL l').size:Int)∧((bsL l').size:Int)≤((bsL l').size:Int)) (by omega),cond_true,Int.toNat_natCast,show Int.toNat 1=1 from rfl,rest_bsL,show IntKind.i64.wrap (((o:Nat):Int)+1)=((o+1:Nat):Int) by rw[wrapM];omega]at hrun
  refine wp_cond_false ((h8.eval (t:=57) rfl).trans (by rw[hxb])) ((runs_drop scCall _ _ hrun).stand (oS15 ..) h8 fun a9 w9 h9=>?_)
  have hct:=h9.cut (lo:=4096) (hi:=frH) (cl14 ..)
  rw[ct14]at hct
  have hd:(l'.drop 1).length=l'.length-1:=List.length_drop ..
  refine hN (l'.drop 1) fs (o+1) F wb a n c a9 w9 (by omega) ⟨L,hct,hown,hF,hlen,by omega,by omega,?_⟩
  rw[heq]
  unfold catS skipS
  simp only[Prod.mk.injEq,true_and]
  omega
theorem scan_mid(hS:S0.length≤1099511627776){l':List UInt8}{fs:List Fr}{o k:Nat}{F:Nat→Prop}{wb:World}{a:Option Addr}{n c:Nat}{act:Act}{w:World}(L:Live W0 F wb)(h4:Stand F wb 69 (sS (bsL l') a n c o []) act w)
  (hown:wb.ownsRow W0.heap.size 74 2 (.slice a n c) n (cellsF fs)) (hF:∀r,(Value.slice a n c).ownBlock=some r→F r) (hlen:fs.length=n) (hb1:n+l'.length≤S0.length) (hb2:o+l'.length≤S0.length) (hk:l'.length≤k) (c3:¬ l'.length<3)
  (heq2:scanV S0=catS fs o (if (l'.getD 2 0).toNat+5>l'.length∧(l'.getD 2 0).toNat+5≤69 then ([],l',0) else
   if (openV (bsL (l'.take (min ((l'.getD 2 0).toNat+5) l'.length)))).b then consS (openV (bsL (l'.take (min ((l'.getD 2 0).toNat+5) l'.length)))).a (scanV (l'.drop ((l'.getD 2 0).toNat+5))) else skipS (scanV (l'.drop 1)))) (hN:GoOn W0 S0 k Q) (hR:GoRet W0 S0 Q):restS.wp Tryz.prog Q act w:=by
 have hsz':=size_bsL l'
 have hm0:=(l'.getD 2 0).toNat_lt
 have hthird:(l'.take (min ((l'.getD 2 0).toNat+5) l'.length)).getD 2 0=l'.getD 2 0:=by
  rw[List.getD_eq_getElem?_getD,List.getD_eq_getElem?_getD,List.getElem?_take,if_pos (by omega)]
 have h64:(openV (bsL (l'.take (min ((l'.getD 2 0).toNat+5) l'.length)))).b=true→(l'.getD 2 0).toNat≤64:=by
  intro g
  have :=(open_third g).1
  rwa [hthird]at this
 have hrun:=sr9 idxV szOk (fun p=>openV p.1) (bsL l') a n c o
 rw[decide_eq_true (p:=0≤(2:Int)∧2<((bsL l').size:Int)) (by omega),cond_true,byteI_bsL]at hrun
 generalize (l'.getD 2 0).toNat=m at hm0 h64 hrun heq2
 rw[show IntKind.i64.wrap (IntKind.i64.wrap (m:Int)+5)=((m+5:Nat):Int) by rw[wrapM,wrapM];omega]at hrun
 refine wp_seq ((runs_drop scCall _ _ hrun).stand (oS8 ..) h4 fun a5 w5 h5=>?_)
 by_cases c10:m+5>l'.length∧m+5≤69
 ·have hrun:=sr10 idxV szOk (fun p=>openV p.1) (bsL l') a n c o (m+5:Nat)
  rw[decide_eq_true (p:=((m+5:Nat):Int)>((bsL l').size:Int)) (by omega),cond_true,decide_eq_true (p:=((m+5:Nat):Int)≤69) (by omega)]at hrun
  simp only[cond_true]at hrun
  refine wp_seq ((runs_drop scCall _ _ hrun).stand (oS10 ..) h5 fun a6 w6 h6=>hR a6 w6 ?_)
  have hx:scanV S0=(fs,l',o):=by rw[heq2,if_pos c10];simp[catS]
  rw[hx]
  exact scan_ret L h6 hown hF hlen (rS10 ..)
 rw[if_neg c10]at heq2
 refine wp_seq ((runs_drop scCall _ _ (sr10' (m:=(m+5:Nat)) fun g=>c10 (by omega))).stand (oS8 ..) h5 fun a6 w6 h6=>?_)
 have hrun:=sr12 idxV szOk (fun p=>openV p.1) (bsL l') a n c o (m+5:Nat)
 dsimp only at hrun
 have hq:minI ((m+5:Nat):Int) ((bsL l').size:Int)=((min (m+5) l'.length:Nat):Int):=by unfold minI;split<;>omega
 rw[hq,decide_eq_true (p:=0≤((0:Nat):Int)∧((0:Nat):Int)≤((min (m+5) l'.length:Nat):Int)∧((min (m+5) l'.length:Nat):Int)≤((bsL l').size:Int)) (by omega),cond_true,Int.toNat_natCast,Int.toNat_natCast,take_bsL]at hrun
 have hpre:szOk (bsL (l'.take (min (m+5) l'.length)),())=true:=decide_eq_true (by show (bsL _).size≤_;rw[size_bsL,List.length_take];omega)
 rw[hpre,cond_true]at hrun
 refine wp_seq ((runs_drop scCall _ _ hrun).stand (oSX ..) h6 fun a7 w7 h7=>?_)
 refine wp_seq ((runs_drop scCall _ _ (sr13 idxV szOk (fun p=>openV p.1) (bsL l') a n c o (m+5:Nat) (openV (bsL (l'.take (min (m+5) l'.length)))))).stand (oSY ..) h7 fun a8 w8 h8=>?_)
 exact scan_tail hS L h8 hown hF hlen hb1 hb2 hk (by omega) (fun g=>by have :=h64 g;omega) heq2 hN
theorem scan_step(hS:S0.length≤1099511627776){l:List UInt8}{fs:List Fr}{o:Nat}{F:Nat→Prop}{wb:World}{a:Option Addr}{n c:Nat}{act:Act}{w:World}(I:SInv W0 S0 l fs o F wb a n c act w)(hN:GoOn W0 S0 l.length Q)(hR:GoRet W0 S0 Q):(Code.block 1 sB).wp Tryz.prog Q act w:=by
 obtain ⟨L,hst,hown,hF,hlen,hb1,hb2,heq⟩:=I
 refine wp_block ?_
 rw[sB_is]
 refine wp_seq ((runs_drop scCall _ _ (sr3 idxV szOk (fun p=>openV p.1) (bsL l) a n c o)).stand (oS3 ..) hst fun a1 w1 h1=>?_)
 have hidx:idxV (bsL l,⟨165⟩,())=Lib.indexByte l 165:=by unfold idxV;rw[data_bsL];rfl
 rw[hidx]at h1
 have hsz:=size_bsL l
 rcases index_facts l 165 with ⟨hi,hno⟩ | ⟨i,hi,hil,hi0,hij⟩
 ·rw[hi]at h1
  have hrun:=sr4 idxV szOk (fun p=>openV p.1) (bsL l) a n c o (-1)
  rw[decide_eq_true (p:=(-1:Int)<0) (by decide),cond_true,show IntKind.i64.wrap ((o:Int)+((bsL l).size:Int))=((o+l.length:Nat):Int) by rw[size_bsL,wrapM];omega]at hrun
  refine wp_seq ((runs_drop scCall _ _ hrun).stand (oS4 ..) h1 fun a2 w2 h2=>hR a2 w2 ?_)
  have hx:scanV S0=(fs,[],o+l.length):=by rw[heq,scan_none hno];simp[catS]
  rw[hx]
  exact scan_ret (l:=[]) L h2 hown hF hlen (rS4 ..)
 rw[hi]at h1
 have hrun:=sr4 idxV szOk (fun p=>openV p.1) (bsL l) a n c o i
 rw[decide_eq_false (p:=(i:Int)<0) (by omega),cond_false]at hrun
 refine wp_seq ((runs_drop scCall _ _ hrun).stand (oS3 ..) h1 fun a2 w2 h2=>?_)
 have hrun:=sr6 idxV szOk (fun p=>openV p.1) (bsL l) a n c o i
 rw[decide_eq_true (p:=0≤(i:Int)∧(i:Int)≤((bsL l).size:Int)∧((bsL l).size:Int)≤((bsL l).size:Int)) (by omega),cond_true,Int.toNat_natCast,Int.toNat_natCast,rest_bsL,show IntKind.i64.wrap ((o:Int)+(i:Int))=((o+i:Nat):Int) by rw[wrapM];omega]at hrun
 refine wp_seq ((runs_drop scCall _ _ hrun).stand (oS2 ..) h2 fun a3 w3 h3=>?_)
 have hll:(l.drop i).length=l.length-i:=List.length_drop ..
 have hl0:(l.drop i).getD 0 0=165:=by
  rw[List.getD_eq_getElem?_getD,List.getElem?_drop,Nat.add_zero,← List.getD_eq_getElem?_getD]
  exact hi0
 have heq2:scanV S0=catS fs (o+i) (scanV (l.drop i)):=by
  rw[heq,scan_skip i l (by omega) hij]
  unfold catS addO
  simp only[Prod.mk.injEq,true_and]
  omega
 generalize hl':l.drop i=l' at h3 hll hl0 heq2
 rw[scan_mark hl0 (by omega)]at heq2
 have hsz':=size_bsL l'
 have hrun:=sr7 idxV szOk (fun p=>openV p.1) (bsL l') a n c (o+i:Nat)
 by_cases c3:l'.length<3
 ·rw[decide_eq_true (p:=((bsL l').size:Int)<3) (by omega),cond_true]at hrun
  refine wp_seq ((runs_drop scCall _ _ hrun).stand (oS7 ..) h3 fun a4 w4 h4=>hR a4 w4 ?_)
  have hx:scanV S0=(fs,l',o+i):=by rw[heq2,if_pos c3];simp[catS]
  rw[hx]
  exact scan_ret L h4 hown hF hlen (rS7 ..)
 rw[decide_eq_false (p:=((bsL l').size:Int)<3) (by omega),cond_false]at hrun
 rw[if_neg c3]at heq2
 refine wp_seq ((runs_drop scCall _ _ hrun).stand (oS2 ..) h3 fun a4 w4 h4=>?_)
 exact scan_mid (o:=o+i) hS L h4 hown hF hlen (by omega) (by omega) (by omega) c3 heq2 hN hR
end
theorem scan_rounds{W0:World}{S0:List UInt8}(hS:S0.length≤1099511627776){Q:Exit→Act→World→Prop}(hR:∀act' w',ScanR W0 (scanV S0) act' w'→Q .ret act' w') :
  ∀(k:Nat) (l:List UInt8) (fs:List Fr) (o:Nat) (F:Nat→Prop) (wb:World) (a:Option Addr) (n c:Nat) (act:Act) (w:World),l.length≤k→SInv W0 S0 l fs o F wb a n c act w→Code.rounds Tryz.prog (.block 1 sB) Q (k+1) act w:=by
 intro k
 induction k with
 | zero =>
  intro l fs o F wb a n c act w hk I
  rw[rounds_succ]
  exact scan_step hS I (fun l' _ _ _ _ _ _ _ _ _ h _=>by omega) fun act' w' h=>hR act' w' h
 | succ k ih =>
  intro l fs o F wb a n c act w hk I
  rw[rounds_succ]
  exact scan_step hS I (fun l' fs' o' F' wb' a' n' c' act' w' h I'=>ih l' fs' o' F' wb' a' n' c' act' w' (by omega) I') fun act' w' h=>hR act' w' h
theorem f16_is:Tryz.prog.funcs[162]?=some Tryz.f162:=by kernel_rfl
theorem scan_calls(s:ByteArray)(hS:s.size≤1099511627776)(w:World):Calls Tryz.prog 162 #[.string s] w fun e w'=>∃v,e=.returned v∧RowKit.Below w.heap.size w w'∧ScanX w (scanV s.data.toList) v w':=by
 refine calls_of_wp f16_is sC_is ?_
 have hst:=Stand.start (N:=69) [.string s] w 4096 frH frT (by simp)
 refine wp_seq ((runs_drop scCall _ _ (sr0 idxV szOk (fun p=>openV p.1) s)).stand (oS0 ..) hst fun a1 w1 h1=>?_)
 refine wp_seq ((runs_drop scCall _ _ (sr1 idxV szOk (fun p=>openV p.1) s)).stand (oS1 ..) h1 fun a2 w2 h2=>?_)
 refine wp_seq ((runs_drop scCall _ _ (sr2 idxV szOk (fun p=>openV p.1) s)).stand (oS2 ..) h2 fun a3 w3 h3=>?_)
 have hl:s.data.toList.length=s.size:=rfl
 have I:SInv w s.data.toList s.data.toList [] 0 (fun k=>k<w.heap.size) w none 0 0 a3 w3:=⟨Live.start w,by rw[bsL_data];exact h3,⟨rfl,.inl ⟨rfl,rfl⟩⟩,fun r hr=>by (cases hr),rfl,by omega,by omega,by simp[catS]⟩
 refine wp_block (wp_loop_rounds (s.size+1) (scan_rounds (W0:=w) (S0:=s.data.toList) (by omega) (fun act' w' h=>?_) s.size s.data.toList [] 0 _ w none 0 0 a3 w3 (by omega) I))
 obtain ⟨v,y1,y2,y3,y4⟩:=h
 exact (bodyPost_ret y1 y2 ⟨v,rfl,y3,y4⟩:bodyPost Tryz.prog Tryz.f162 (fun e w'=>∃v,e=.returned v∧RowKit.Below w.heap.size w w'∧ScanX w (scanV s.data.toList) v w') .ret act' w')
end Go.Ab
namespace Go.Ab
open Go Go.Proofs
section
variable (po:ByteArray×Unit→Bool) (op:OpG) (s:ByteArray) (a:Option Addr) (n c:Nat) (o i m:Int)
def rX(s:ByteArray)(a:Option Addr)(n c:Nat)(o i m:Int)(x:Two Fr Bool):St:=mkSt 83 [0,5,6,7,8,10] [.string s,.slice a n c,.int .i64 o,.int .i64 i,.int .i64 m,.bool x.b] [(9,4096,0)] [(4096,74,2)] [.int .i64 x.a.kind,.string x.a.data] fr2 frH frT
end
end Go.Ab
namespace Go.Ab
open Go Go.Proofs
theorem und26':∃td,Tryz.prog.underlying 74=some td∧isAggD td=true:=by
 have :=und26
 cases h:Tryz.prog.underlying 74 with
 | none=>rw[h]at this;cases this
 | some td=>rw[h]at this;exact ⟨td,rfl,by simpa using this⟩
theorem hX(s:ByteArray)(a:Option Addr)(n c:Nat)(o i m:Int)(x:Two Fr Bool):hget (rX s a n c o i m x).heap 4096=some (.row 74 ((frCells x.a).map .val)):=by kernel_rfl
end Go.Ab
namespace Go.Ab
open Go
theorem scan_165(r:List UInt8):scanV (165 :: r)=if (165 :: r:List UInt8).length<3 then ([],165 :: r,0) else if 64<((165 :: r:List UInt8).getD 2 0).toNat then skipS (scanV r) else if (165 :: r:List UInt8).length<((165 :: r:List UInt8).getD 2 0).toNat+5 then ([],165 :: r,0) else
  if (openV (bsL ((165 :: r:List UInt8).take (((165 :: r:List UInt8).getD 2 0).toNat+5)))).b then consS (openV (bsL ((165 :: r:List UInt8).take (((165 :: r:List UInt8).getD 2 0).toNat+5)))).a (scanV ((165 :: r:List UInt8).drop (((165 :: r:List UInt8).getD 2 0).toNat+5))) else skipS (scanV r):=by
 rw[scan_eq]
 show (if (165:UInt8)=165 then _ else skipS (scanV r))=_
 exact if_pos rfl
end Go.Ab
namespace Go.Ab
open Go Go.Proofs
structure FrsAt(w:World)(v:Value)(fs:List Fr):Prop where
 small:fs.length≤1099511627776
 lies:(∃c,v=.slice none 0 c∧fs=[])∨∃r c cur,v=.slice (some ⟨r,0,none⟩) fs.length c∧w.heap[r]?=some (.cells cur 74 (0,0))∧cur.toList.take (fs.length*2)=cellsF fs
theorem FrsAt.keep{w w':World}{v:Value}{fs:List Fr}(h:FrsAt w v fs)(hk:∀r,v.ownBlock=some r→w'.heap[r]?=w.heap[r]?):FrsAt w' v fs:=by
 refine ⟨h.small,?_⟩
 rcases h.lies with h2 | ⟨r,c,cur,rfl,h3,h4⟩
 ·exact .inl h2
 ·exact .inr ⟨r,c,cur,rfl,by rw[hk r rfl];exact h3,h4⟩
theorem cellsF_at:∀(fs:List Fr) (i:Nat) (hi:i<fs.length),(cellsF fs)[i*2+0]?=some (.int .i64 fs[i].kind)∧(cellsF fs)[i*2+1]?=some (.string fs[i].data)
 | [],i,hi=>by simp at hi
 | f :: fs,0,_=>⟨rfl,rfl⟩
 | f :: fs,i+1,hi=>by
  have ih:=cellsF_at fs i (by simpa using hi)
  have e:cellsF (f :: fs)=.int .i64 f.kind :: .string f.data :: cellsF fs:=rfl
  rw[e,show (i+1)*2+0=i*2+0+1+1 by omega,show (i+1)*2+1=i*2+1+1+1 by omega]
  exact ih
theorem cell_of{w:World}{r:Nat}{cur:Array Value}{fs:List Fr}(h:w.heap[r]?=some (.cells cur 74 (0,0)))(ht:cur.toList.take (fs.length*2)=cellsF fs){i:Nat}(hi:i<fs.length) :
  w.cell? ⟨r,i*2+0,none⟩=some (.int .i64 fs[i].kind)∧w.cell? ⟨r,i*2+1,none⟩=some (.string fs[i].data):=by
 obtain ⟨h1,h2⟩:=cellsF_at fs i hi
 rw[← ht,List.getElem?_take,if_pos (by omega)]at h1 h2
 simp only[World.cell?,h]
 simp only[Array.getElem?_toList]at h1 h2
 exact ⟨by simpa using h1,by simpa using h2⟩
theorem FrsAt.elem{w:World}{v:Value}{fs:List Fr}(h:FrsAt w v fs){i:Nat}(hi:i<fs.length):∃r c,v=.slice (some ⟨r,0,none⟩) fs.length c∧r<w.heap.size∧w.cell? ⟨r,i*2+0,none⟩=some (.int .i64 fs[i].kind)∧w.cell? ⟨r,i*2+1,none⟩=some (.string fs[i].data):=by
 rcases h.lies with ⟨c,_,h2⟩ | ⟨r,c,cur,rfl,h3,h4⟩
 ·subst h2;simp at hi
 ·exact ⟨r,c,rfl,row_lt h3,cell_of h3 h4 hi⟩
theorem FrsAt.val{w:World}{v:Value}{fs:List Fr}(h:FrsAt w v fs):∃a c,v=.slice a fs.length c:=by
 rcases h.lies with ⟨c,rfl,rfl⟩ | ⟨r,c,cur,rfl,_,_⟩
 ·exact ⟨none,c,rfl⟩
 ·exact ⟨_,c,rfl⟩
theorem scanX_at{W0:World}{x:Scd}{v:Value}{w':World}(h:ScanX W0 x v w')(hs:x.1.length≤1099511627776):∃l,v=.tuple #[l,.string (bsL x.2.1),.int .i64 (x.2.2:Int)]∧FrsAt w' l x.1∧(∀r,l.ownBlock=some r→W0.heap.size≤r∧r<w'.heap.size)∧w'.ownsRow W0.heap.size 74 2 l x.1.length (cellsF x.1):=by
 obtain ⟨a,c,rfl,hown⟩:=h
 refine ⟨_,rfl,⟨hs,?_⟩,?_,hown⟩
 ·rcases hown.2 with ⟨h1,h2⟩ | ⟨g,c',cur,e1,e2,e3,_,_,_,e5⟩
  ·have hx:x.1=[]:=List.eq_nil_of_length_eq_zero h2
   rw[h1,hx]
   exact .inl ⟨0,rfl,rfl⟩
  ·cases e1
   exact .inr ⟨g,c,cur,rfl,e3,e5⟩
 ·intro r hr
  rcases hown.2 with ⟨h1,h2⟩ | ⟨g,c',cur,e1,e2,e3,_,_,_,e5⟩
  ·rw[h1]at hr;cases hr
  ·cases e1;cases hr;exact ⟨e2,row_lt e3⟩
end Go.Ab
namespace Go.Ab
open Go Go.Proofs
instance:Cod Rdg where
 enc r:=.agg (List.toArray (CodL.encl r))
 dec v:=match v with
  | .agg a=>decAll Rdg a.toList
  | _=>none
 law v a h:=by
  split at h
  ·rename_i x
   rw[← decAll_law h]
  ·cases h
structure HrOps where
 rj:CX→CX
 rd:Fr×Unit→Two Rdg Bool
 fr:Rdg×Int×Unit→Bool
 od:CX→Fr×Unit→CX
def hrG(F:HrOps):Gam:=[(163,ySM F.rj),(164,S0 F.rd),(165,S0 F.fr),(166,SM (fun _ _=>true) fun x a=>(unitV,F.od x a))]
noncomputable def hrR:Nat→Code
 | 0=>Tryz.f88.body.getD .skip
 | k+1=>seqR (hrR k)
noncomputable def hrL(k:Nat):Code:=seqL (hrR k)
noncomputable def hrO0:Array Oper:=regO (hrL 0)
noncomputable def hrB:Code:=inB (inB (hrR 4))
noncomputable def hrP5:Code:=seqL hrB
noncomputable def hrPc:Code:=seqL (seqR hrB)
noncomputable def hrI1:Code:=inB (seqL (seqR (seqR hrB)))
noncomputable def hrP18:Code:=seqR (seqR (seqR hrB))
noncomputable def hrO6:Array Oper:=regO (seqL hrI1)
noncomputable def hrP7:Code:=seqL (seqR hrI1)
noncomputable def hrK1:Code:=seqL (inB (seqR (seqR hrI1)))
noncomputable def hrKc:Code:=seqR (inB (seqR (seqR hrI1)))
theorem hr_is:Tryz.f88.body=some (.seq (.region 0 hrO0 false) (.seq (hrL 1) (.seq (hrL 2) (.seq (hrL 3) (hrR 4))))):=by kernel_rfl
theorem hrB_is:hrR 4=.block 0 (.loop (.seq hrP5 (.seq hrPc (.seq (.block 1 (.seq (.region 6 hrO6 false) (.seq hrP7 (.block 2 (.seq hrK1 hrKc))))) hrP18)))):=by kernel_rfl
theorem f88_is:Tryz.prog.funcs[88]?=some Tryz.f88:=by kernel_rfl
theorem f162_on : (Tryz.f162.body.isSome && !Tryz.f162.name == "runtime.NumGoroutine") = true := by kernel_rfl
def cScanH:Call:={callee:=.value (.func 162),args:=#[.tmp 20],argTypes:=#[9]}
theorem hr0_9:sigOf hrO0 9=some (.call cScanH,some 21,true):=by kernel_rfl
theorem hr0_n:List.range hrO0.size=(List.range (hrO0.toList.take 9).length).map (0+·)++(9 :: ((List.range (hrO0.toList.drop 10).length).map (10+·)++[])):=by kernel_rfl
theorem hr6_0:sigOf hrO6 0=some (.indexAddr 96 (.tmp 36) (.tmp 38),some 40,true):=by kernel_rfl
theorem hr6_1:sigOf hrO6 1=some (.load 74 (.tmp 40),some 41,true):=by kernel_rfl
theorem hr6_n:List.range hrO6.size=0 :: 1 :: ((List.range (hrO6.toList.drop 2).length).map (2+·)++[]):=by kernel_rfl
def hH(x:CX):Hp:=[(0,.row 145 (stpRow x.1)),(1,.row 44 (crfRow x.2.1)),(2,.obj (rdsObj x.2.2))]
def hS(x:CX)(tm:List (Nat×AV)):St:=gSt 79 ((0,.ptr 0 0) :: tm) (hH x) 4096
def hN1:Nat:=4096+1*2^180
def hS1(x:CX)(tm:List (Nat×AV)):St:=gSt 79 ((0,.ptr 0 0) :: tm) (hH x) hN1
def hF(x:CX)(k:Int)(d:ByteArray)(tm:List (Nat×AV)):St:=gSt 79 ((0,.ptr 0 0) :: (8,.ptr 4096 0) :: tm) [(0,.row 145 (stpRow x.1)),(1,.row 44 (crfRow x.2.1)),(2,.obj (rdsObj x.2.2)),(4096,.row 74 [.val (.int .i64 k),.val (.string d)])] hN1
noncomputable abbrev hrEnd(ks ts:List Nat):St→List Foot→Option (Bool×St):=endOps ks (restN 79 ts)
noncomputable abbrev hrRun(F:HrOps)(c:Code)(s:St)(ts:List Nat):Option (Ex×St):=gRun Tryz.prog {gam:=hrG F} 79 c s [0,1,2] ts
noncomputable abbrev hrRun4(F:HrOps)(c:Code)(s:St)(ts:List Nat):Option (Ex×St):=gRun Tryz.prog {gam:=hrG F} 79 c s [0,1,2,4096] ts
noncomputable abbrev hrCut(F:HrOps)(c:Code)(s:St)(ts:List Nat):Option (Ex×St):=gCut Tryz.prog {gam:=hrG F} 79 c s hN1 [0,1,2] ts
def hrT(a:Option Addr)(n c:Nat)(i:Int):List (Nat×AV):=[(36,.val (.slice a n c)),(37,.val (.int .i64 n)),(38,.val (.int .i64 i))]
def putR1(x:CX)(r:Rdg):CX:=(x.1,x.2.1,{x.2.2 with p1:=true,r1:=r})
def putR2(x:CX)(r:Rdg):CX:=(x.1,x.2.1,{x.2.2 with p2:=true,r2:=r})
def putR3(x:CX)(r:Rdg):CX:=(x.1,x.2.1,{x.2.2 with p3:=true,r3:=r})
def sensX(F:HrOps)(x:CX)(f:Fr)(p:CX):CX:=bif (F.rd (f,())).b then bif F.fr ((F.rd (f,())).a,x.1.tk,()) then p else F.rj x else F.rj x
def hearF(F:HrOps)(x:CX)(f:Fr):CX :=
 bif f.kind==1 then sensX F x f (putR1 x (F.rd (f,())).a) else bif f.kind==2 then sensX F x f (putR2 x (F.rd (f,())).a) else bif f.kind==3 then sensX F x f (putR3 x (F.rd (f,())).a) else
 bif f.kind==16 then F.od x (f,()) else F.rj x
def sensT(F:HrOps)(x:CX)(f:Fr)(p:CX)(tm:List (Nat×AV)):Option (Ex×St):=bif (F.rd (f,())).b then bif F.fr ((F.rd (f,())).a,x.1.tk,()) then some (.normal,hS1 p tm) else some (.normal,hS1 (F.rj x) tm) else some (.normal,hS1 (F.rj x) tm)
section
variable (F:HrOps) (x:CX) (b l d:ByteArray) (a:Option Addr) (ad:Addr) (n c:Nat) (o i k:Int) (t:Bool)
theorem hr_q0:opsRun Tryz.prog (callN Tryz.prog {gam:=hrG F} 4 (Bool×St)) (isSum (hrG F)) 79 hrO0 (hrO0.toList.take 9) (startS 79 [.ptr 0 0,.val (.string b)] (stpX x)) [] (hrEnd [0,1,2] [0,20])=bif decide (((x.2.1.left.size+b.size:Nat):Int)>9223372036854775807) then none else some (true,hS x [(20,.val (.string (x.2.1.left++b)))]):=by kernel_rfl
theorem hr_q0b(v:ByteArray):opsRun Tryz.prog (callN Tryz.prog {gam:=hrG F} 4 (Bool×St)) (isSum (hrG F)) 79 hrO0 (hrO0.toList.drop 10) {hS x [(20,.val (.string v))]with tmps:=(hS x [(20,.val (.string v))]).tmps.set 21 (.val (.tuple #[.slice a n c,.string l,.int .i64 o]))} [] (hrEnd [0,1,2] [0,4,5,6])=some (true,hS x [(4,.val (.slice a n c)),(5,.val (.string l)),(6,.val (.int .i64 o))]):=by kernel_rfl
theorem hr_q1:hrRun F (hrL 1) (hS x [(4,.val (.slice a n c)),(5,.val (.string l)),(6,.val (.int .i64 o))]) [0,4,6]=some (.normal,hS (x.1,{x.2.1 with left:=l},x.2.2) [(4,.val (.slice a n c)),(6,.val (.int .i64 o))]):=by kernel_rfl
theorem hr_q2:hrRun F (hrL 2) (hS x [(4,.val (.slice a n c)),(6,.val (.int .i64 o))]) [0,4]=bif decide (o>0) then some (.normal,hS (F.rj x) [(4,.val (.slice a n c))]) else some (.normal,hS x [(4,.val (.slice a n c))]):=by kernel_rfl
theorem hr_q3:hrRun F (hrL 3) (hS x [(4,.val (.slice a n c))]) [0,36,37,38]=some (.normal,hS x (hrT a n c 0)):=by kernel_rfl
theorem hr_q5:hrRun F hrP5 (hS x (hrT a n c i)) [0,36,37,38,39]=some (.normal,hS x (hrT a n c i++[(39,.val (.bool (decide (i<n))))])):=by kernel_rfl
theorem hr_qc:hrRun F hrPc (hS x (hrT a n c i++[(39,.val (.bool t))])) [0,36,37,38]=bif t then some (.normal,hS x (hrT a n c i)) else some (.exit 0,hS x (hrT a n c i)):=by kernel_rfl
theorem hr_q6:opsRun Tryz.prog (callN Tryz.prog {gam:=hrG F} 4 (Bool×St)) (isSum (hrG F)) 79 hrO6 (hrO6.toList.drop 2) {hS x (hrT a n c i) with tmps:=((hS x (hrT a n c i)).tmps.set 40 (.val (.pointer (some ad)))).set 41 (.val (.agg (List.toArray [.int .i64 k,.string d])))} [] (hrEnd [0,1,2,4096] [0,8,36,37,38])=some (true,hF x k d (hrT a n c i)):=by kernel_rfl
theorem hr_q7:hrRun4 F hrP7 (hF x k d (hrT a n c i)) [0,8,36,37,38,43]=some (.normal,hF x k d (hrT a n c i++[(43,.val (.int .i64 k))])):=by kernel_rfl
theorem hr_k1:hrRun4 F hrK1 (hF x k d (hrT a n c i++[(43,.val (.int .i64 k))])) [0,8,36,37,38,43,46]=bif k==1 then some (.normal,hF x k d (hrT a n c i++[(43,.val (.int .i64 k)),(46,.val (.bool true))])) else bif k==2 then some (.normal,hF x k d (hrT a n c i++[(43,.val (.int .i64 k)),(46,.val (.bool true))])) else some (.normal,hF x k d (hrT a n c i++[(43,.val (.int .i64 k)),(46,.val (.bool (k==3)))])):=by kernel_rfl
theorem hr_kn:hrCut F hrKc (hF x k d (hrT a n c i++[(43,.val (.int .i64 k)),(46,.val (.bool false))])) [0,36,37,38]=bif k==16 then some (.normal,hS1 (F.od x (⟨k,d⟩,())) (hrT a n c i)) else some (.normal,hS1 (F.rj x) (hrT a n c i)):=by kernel_rfl
theorem hr_ky1:hrCut F hrKc (hF x 1 d (hrT a n c i++[(43,.val (.int .i64 1)),(46,.val (.bool true))])) [0,36,37,38]=sensT F x ⟨1,d⟩ (putR1 x (F.rd (⟨1,d⟩,())).a) (hrT a n c i):=by kernel_rfl
theorem hr_ky2:hrCut F hrKc (hF x 2 d (hrT a n c i++[(43,.val (.int .i64 2)),(46,.val (.bool true))])) [0,36,37,38]=sensT F x ⟨2,d⟩ (putR2 x (F.rd (⟨2,d⟩,())).a) (hrT a n c i):=by kernel_rfl
theorem hr_ky3:hrCut F hrKc (hF x 3 d (hrT a n c i++[(43,.val (.int .i64 3)),(46,.val (.bool true))])) [0,36,37,38]=sensT F x ⟨3,d⟩ (putR3 x (F.rd (⟨3,d⟩,())).a) (hrT a n c i):=by kernel_rfl
theorem hr_q18:hrRun F hrP18 (hS x (hrT a n c i)) [0,36,37,38]=some (.normal,hS x (hrT a n c (IntKind.i64.wrap (i+1)))):=by kernel_rfl
theorem hr_okc:okClean hN1 (hS1 x (hrT a n c i))=true:=by kernel_rfl
theorem hr_okc0:okClean 4096 (hS1 x (hrT a n c i))=true:=by kernel_rfl
end
end Go.Ab
namespace Go.Ab
open Go Go.Proofs
section
variable {F:HrOps} (hG:GamOk Tryz.prog (hrG F))
include hG
theorem hr_call:∀β,CallOk Tryz.prog (callN Tryz.prog {gam:=hrG F} 4 β):=callN_ok (E:={gam:=hrG F}) hG 4
theorem hr_frame(x:CX)(k:Int)(d:ByteArray)(a:Option Addr)(n c:Nat)(i:Int):RunsTo Tryz.prog 79 (.seq hrP7 (.block 2 (.seq hrK1 hrKc))) (hF x k d (hrT a n c i)) .normal (hS1 (hearF F x ⟨k,d⟩) (hrT a n c i)):=by
 have h7:=gRun_runs (E:={gam:=hrG F}) hG (hr_q7 F x d a n c i k)
 have hk:=hr_k1 F x d a n c i k
 have hsens:∀(p:CX),(sensT F x ⟨k,d⟩ p (hrT a n c i))=some (.normal,hS1 (sensX F x ⟨k,d⟩ p) (hrT a n c i)):=by
  intro p
  unfold sensT sensX
  cases (F.rd (⟨k,d⟩,())).b
  ·rfl
  ·cases F.fr ((F.rd (⟨k,d⟩,())).a,x.1.tk,())<;>rfl
 by_cases h1:k=1
 ·subst h1
  have e:hearF F x ⟨1,d⟩=sensX F x ⟨1,d⟩ (putR1 x (F.rd (⟨1,d⟩,())).a):=rfl
  rw[e]
  exact .seq h7 (.block (.seq (gRun_runs (E:={gam:=hrG F}) hG hk) (gCut_runs (E:={gam:=hrG F}) hG ((hr_ky1 F x d a n c i).trans (hsens _)) rfl (hr_okc ..) rfl)) (.inl rfl))
 by_cases h2:k=2
 ·subst h2
  have e:hearF F x ⟨2,d⟩=sensX F x ⟨2,d⟩ (putR2 x (F.rd (⟨2,d⟩,())).a):=rfl
  rw[e]
  exact .seq h7 (.block (.seq (gRun_runs (E:={gam:=hrG F}) hG hk) (gCut_runs (E:={gam:=hrG F}) hG ((hr_ky2 F x d a n c i).trans (hsens _)) rfl (hr_okc ..) rfl)) (.inl rfl))
 by_cases h3:k=3
 ·subst h3
  have e:hearF F x ⟨3,d⟩=sensX F x ⟨3,d⟩ (putR3 x (F.rd (⟨3,d⟩,())).a):=rfl
  rw[e]
  exact .seq h7 (.block (.seq (gRun_runs (E:={gam:=hrG F}) hG hk) (gCut_runs (E:={gam:=hrG F}) hG ((hr_ky3 F x d a n c i).trans (hsens _)) rfl (hr_okc ..) rfl)) (.inl rfl))
 have b1:(k==1)=false:=beq_eq_false_iff_ne.2 h1
 have b2:(k==2)=false:=beq_eq_false_iff_ne.2 h2
 have b3:(k==3)=false:=beq_eq_false_iff_ne.2 h3
 rw[b1,b2,b3]at hk
 simp only[cond_false]at hk
 have hn:=hr_kn F x d a n c i k
 have e:hearF F x ⟨k,d⟩=bif k==16 then F.od x (⟨k,d⟩,()) else F.rj x:=by
  unfold hearF
  dsimp only
  rw[b1,b2,b3]
  rfl
 rw[e]
 refine .seq h7 (.block (.seq (gRun_runs (E:={gam:=hrG F}) hG hk) (gCut_runs (E:={gam:=hrG F}) hG (hn.trans ?_) rfl (hr_okc ..) rfl)) (.inl rfl))
 cases k==16<;>rfl
omit hG in
theorem run_frame{w:World}{ad:Addr}{k:Int}{d:ByteArray}(h0:w.cell? (ad.add 0)=some (.int .i64 k))(h1:w.cell? (ad.add 1)=some (.string d)):(loadVar 74 ad).run Tryz.prog w=.ok (.agg (List.toArray [.int .i64 k,.string d])) w:=by
 obtain ⟨ti,hti,hs,_,_⟩:=info26
 obtain ⟨td,htd,hag⟩:=und26'
 unfold loadVar
 rw[Sem.run_bind,run_isAgg htd w,hag]
 simp only[Result.andThen_ok,if_true,Sem.run_bind,run_sizeOf hti w]
 have :=run_loadFrom (P:=Tryz.prog) (w:=w) (a:=ad) ti.size 0 [.int .i64 k,.string d] #[] (by rw[hs];rfl) fun j c hj=>by
  match j,hj with
  | 0,hj=>cases hj;exact h0
  | 1,hj=>cases hj;exact h1
  | j+2,hj=>simp at hj
 unfold loadCells
 rw[this]
 simp
theorem hr_rounds{w1:World}{own1:Nat→Prop}{σ1:Nat→Option Nat}{hi1:Nat}{fs:List Fr}{a:Option Addr}{c:Nat}(hat:FrsAt w1 (.slice a fs.length c) fs)(hno:∀r,(Value.slice a fs.length c).ownBlock=some r→r<w1.heap.size∧¬ own1 r)
  (hnone:∀b,4096≤b→b<hi1→σ1 b=none) (hhi:hi1=4096+2^200) {Q:Exit→Act→World→Prop} :
  ∀(m i:Nat) (x:CX) (act:Act) (w:World),i+m=fs.length→(∀a' w',StFits 79 w1 own1 σ1 4096 hi1 (hS ((fs.drop i).foldl (hearF F) x) (hrT a fs.length c fs.length)) a' w'→Q (.exit 0) a' w') →
   StFits 79 w1 own1 σ1 4096 hi1 (hS x (hrT a fs.length c i)) act w→Code.rounds Tryz.prog (.seq hrP5 (.seq hrPc (.seq (.block 1 (.seq (.region 6 hrO6 false) (.seq hrP7 (.block 2 (.seq hrK1 hrKc))))) hrP18))) Q (m+1) act w:=by
 intro m
 induction m with
 | zero =>
  intro i x act w hi hQ hst
  have hi':i=fs.length:=by omega
  rw[rounds_succ]
  refine wp_seq (gRun_runs (E:={gam:=hrG F}) hG (hr_q5 F x a fs.length c i) w1 own1 σ1 4096 hi1 act w hst _ fun a1 w1' h1=>?_)
  have hb:decide ((i:Int)<(fs.length:Int))=false:=decide_eq_false (by omega)
  rw[hb]at h1
  refine wp_seq (gRun_runs (E:={gam:=hrG F}) hG (hr_qc F x a fs.length c i false) w1 own1 σ1 4096 hi1 a1 w1' h1 _ fun a2 w2 h2=>?_)
  refine hQ a2 w2 ?_
  rw[List.drop_of_length_le (by omega),← hi']
  rw[hi']at h2 ⊢
  exact h2
 | succ m ih =>
  intro i x act w hi hQ hst
  rw[rounds_succ]
  refine wp_seq (gRun_runs (E:={gam:=hrG F}) hG (hr_q5 F x a fs.length c i) w1 own1 σ1 4096 hi1 act w hst _ fun a1 w1' h1=>?_)
  have hlt:i<fs.length:=by omega
  have hb:decide ((i:Int)<(fs.length:Int))=true:=decide_eq_true (by omega)
  rw[hb]at h1
  refine wp_seq (gRun_runs (E:={gam:=hrG F}) hG (hr_qc F x a fs.length c i true) w1 own1 σ1 4096 hi1 a1 w1' h1 _ fun a2 w2 h2=>?_)
  refine wp_seq (wp_block (wp_seq (wp_region ?_)))
  rw[hr6_n]
  have hat2:FrsAt w2 (.slice a fs.length c) fs:=hat.keep fun r hr=>h2.far (hno r hr).1 (hno r hr).2
  obtain ⟨r,c',hv,_,hc0,hc1⟩:=hat2.elem hlt
  cases hv
  obtain ⟨ti,hti,hs,_,_⟩:=info26
  obtain ⟨u96,hu96⟩:∃u,Tryz.prog.underlying 96=some u:=⟨_,v33⟩
  refine index_fit hr6_0 (by omega) (by kernel_rfl) v33 hti h2 (b:=⟨r,0,none⟩) (len:=fs.length) (cap:=c) (i:=i) (ik:=.i64) (h2.eval (t:=36) rfl) (h2.eval (t:=38) rfl) hlt _ fun a3 h3=>?_
  have ead:(⟨r,0,none⟩:Addr).add (i*ti.size)=⟨r,i*2,none⟩:=by rw[hs,addr_add,Nat.zero_add]
  rw[ead]at h3
  refine load_fit hr6_1 (by omega) (by rw[List.length_set];kernel_rfl) h3 (b:=⟨r,i*2,none⟩) (h3.eval (t:=40) (by kernel_rfl)) (run_frame (k:=fs[i].kind) (d:=fs[i].data) hc0 hc1) _ fun a4 h4=>?_
  refine ops_fit (hr_call hG _) [0,1,2,4096] _ (hr_q6 F x fs[i].data (some ⟨r,0,none⟩) ⟨r,i*2,none⟩ fs.length c i fs[i].kind) (fun _ _ hj=>drop_at hj) h4 [] fun a5 w5 h5=>?_
  change Code.wp Tryz.prog (.seq hrP7 (.block 2 (.seq hrK1 hrKc))) _ a5 w5
  refine hr_frame hG x fs[i].kind fs[i].data (some ⟨r,0,none⟩) fs.length c i w1 own1 σ1 4096 hi1 a5 w5 h5 _ fun a6 w6 h6=>?_
  simp only[Ex.to,Exit.inBlock]
  have h7:=h6.lower hnone (hr_okc0 ..) (by rw[hhi];rfl)
  have h8:StFits 79 w1 own1 σ1 4096 hi1 (hS (hearF F x fs[i]) (hrT (some ⟨r,0,none⟩) fs.length c i)) a6 w6:=h7
  refine gRun_runs (E:={gam:=hrG F}) hG (hr_q18 F _ (some ⟨r,0,none⟩) fs.length c i) w1 own1 σ1 4096 hi1 a6 w6 h8 _ fun a7 w7 h9=>?_
  have hw:IntKind.i64.wrap ((i:Int)+1)=((i+1:Nat):Int):=by have :=hat.small;rw[wrapM];omega
  rw[hw]at h9
  refine ih (i+1) _ a7 w7 (by omega) (fun a' w' h'=>hQ a' w' ?_) h9
  rw[List.drop_eq_getElem_cons hlt,List.foldl_cons]
  exact h'
end
end Go.Ab
namespace Go.Ab
open Go Go.Proofs
theorem f88_N:Tryz.f88.ntmps=79:=by kernel_rfl
theorem hr_weak(x:CX)(a:Option Addr)(n c:Nat)(i:Int):dropSt [0,1,2] (restN 79 [0]) (hS x (hrT a n c i))=hS x []:=by kernel_rfl
theorem hr_res(x:CX):resA Tryz.prog (hS x []) Tryz.f88.results.toList=some []:=by kernel_rfl
theorem scan_count:∀(n:Nat) (l:List UInt8),l.length≤n→(scanV l).1.length≤l.length:=by
 intro n
 induction n with
 | zero =>
  intro l h
  have:l=[]:=List.eq_nil_of_length_eq_zero (by omega)
  subst this
  rw[scan_nil]
  exact Nat.le_refl _
 | succ n ih =>
  intro l h
  cases l with
  | nil=>rw[scan_nil];exact Nat.le_refl _
  | cons b r =>
   have hr:r.length≤n:=by simpa using h
   have hskip:∀x:Scd,(skipS x).1=x.1:=fun _=>rfl
   by_cases hb:b=165
   ·subst hb
    rw[scan_165]
    have h1:=ih r hr
    split
    ·simp
    ·split
     ·rw[hskip,List.length_cons];omega
     ·split
      ·simp
      ·split
       ·rename_i h3 _ _ _
        have hl:((165 :: r:List UInt8).drop (((165 :: r:List UInt8).getD 2 0).toNat+5)).length≤n:=by rw[List.length_drop];simp only[List.length_cons]at h3 ⊢;omega
        have h2:=ih _ hl
        unfold consS
        rw[List.length_cons]
        rw[List.length_drop]at h2
        simp only[List.length_cons]at h3 h2 ⊢
        omega
       ·rw[hskip,List.length_cons];omega
   ·rw[scan_other hb,hskip,List.length_cons]
    have :=ih r hr
    omega
def hearPre(x:CX)(a:ByteArray×Unit):Bool:=decide (x.2.1.left.size+a.1.size≤1099511627776)
def hearHead(F:HrOps)(x:CX)(s:Scd):CX:=bif decide ((s.2.2:Int)>0) then F.rj (x.1,{x.2.1 with left:=bsL s.2.1},x.2.2) else (x.1,{x.2.1 with left:=bsL s.2.1},x.2.2)
def hearS(F:HrOps)(x:CX)(s:Scd):CX:=s.1.foldl (hearF F) (hearHead F x s)
def hearO(F:HrOps)(x:CX)(a:ByteArray×Unit):CX:=hearS F x (scanV (x.2.1.left++a.1).data.toList)
section
variable {F:HrOps} (hG:GamOk Tryz.prog (hrG F))
include hG
theorem hr_all(x:CX)(b:ByteArray)(hs:x.2.1.left.size+b.size≤1099511627776) :
  RunsTo Tryz.prog 79 (.seq (.region 0 hrO0 false) (.seq (hrL 1) (.seq (hrL 2) (.seq (hrL 3) (hrR 4))))) (startS 79 [.ptr 0 0,.val (.string b)] (stpX x)) .normal (hS (hearO F x (b,())) []):=by
 intro w0 own σ0 lo0 hi0 act w hst Q hQ
 have hq0:=hr_q0 F x b
 rw[decide_eq_false (by omega),cond_false]at hq0
 have hsz:(x.2.1.left++b).size=x.2.1.left.size+b.size:=ByteArray.size_append
 refine wp_seq (wp_region ?_)
 rw[hr0_n]
 refine ops_fit (hr_call hG _) [0,1,2] _ hq0 (fun _ _ hj=>take_at hj) hst _ fun a1 w1 h1=>?_
 have harg:cScanH.args.map a1.eval=#[.string (x.2.1.left++b)]:=by
  have:a1.eval (.tmp 20)=.string (x.2.1.left++b):=h1.eval (t:=20) rfl
  simp[cScanH,this]
 refine call_else hr0_9 (by omega) (by kernel_rfl) h1 rfl f16_is f162_on harg (scan_calls (x.2.1.left++b) (by omega) w1) _ fun v a2 w2 own1 σ1 hX hB hbd hnone h2 back=>?_
 generalize hsc:scanV (x.2.1.left++b).data.toList=sc at hX
 have hlen:sc.1.length≤1099511627776:=by
  have h3:=scan_count _ (x.2.1.left++b).data.toList (Nat.le_refl _)
  have h4:(x.2.1.left++b).data.toList.length=(x.2.1.left++b).size:=rfl
  rw[hsc]at h3
  omega
 obtain ⟨v',rfl,hat,hown,_⟩:=scanX_at hX hlen
 obtain ⟨ad,c,rfl⟩:=hat.val
 refine ops_fit (hr_call hG _) [0,1,2] _ (hr_q0b F x (bsL sc.2.1) ad sc.1.length c sc.2.2 (x.2.1.left++b)) (fun _ _ hj=>drop_at hj) h2 [] fun a3 w3 h3=>?_
 change Code.wp Tryz.prog (.seq (hrL 1) (.seq (hrL 2) (.seq (hrL 3) (hrR 4)))) _ a3 w3
 refine wp_seq (gRun_runs (E:={gam:=hrG F}) hG (hr_q1 F x (bsL sc.2.1) ad sc.1.length c sc.2.2) _ _ _ _ _ a3 w3 h3 _ fun a4 w4 h4=>?_)
 have e2:hrRun F (hrL 2) (hS (x.1,{x.2.1 with left:=bsL sc.2.1},x.2.2) [(4,.val (.slice ad sc.1.length c)),(6,.val (.int .i64 sc.2.2))]) [0,4]=some (.normal,hS (hearHead F x sc) [(4,.val (.slice ad sc.1.length c))]):=by
  rw[hr_q2]
  unfold hearHead
  cases decide ((sc.2.2:Int)>0)<;>rfl
 refine wp_seq (gRun_runs (E:={gam:=hrG F}) hG e2 _ _ _ _ _ a4 w4 h4 _ fun a5 w5 h5=>?_)
 refine wp_seq (gRun_runs (E:={gam:=hrG F}) hG (hr_q3 F (hearHead F x sc) ad sc.1.length c) _ _ _ _ _ a5 w5 h5 _ fun a6 w6 h6=>?_)
 rw[hrB_is]
 refine wp_block (wp_loop_rounds (sc.1.length+1) (hr_rounds hG hat (fun r hr=>?_) hnone rfl sc.1.length 0 (hearHead F x sc) a6 w6 (by omega) (fun a7 w7 h7=>?_) h6))
 ·obtain ⟨g1,g2⟩:=hown r hr
  exact ⟨g2,fun ho=>by have :=hbd r ho;omega⟩
 ·simp only[Ex.to,Exit.inBlock,if_true]
  refine hQ a7 w7 (back _ _ _ ?_)
  rw[List.drop_zero]at h7
  have e:hearO F x (b,())=sc.1.foldl (hearF F) (hearHead F x sc):=by unfold hearO hearS;dsimp only;rw[hsc]
  rw[e]
  refine h7.weak ?_ (Nat.le_refl _) (Nat.le_refl _)
  rw[← hr_weak _ ad sc.1.length c sc.1.length]
  exact dropSt_wk _ _ _
theorem okHear:SumOk Tryz.prog 88 (SM hearPre fun x a=>(unitV,hearO F x a)):=by
 intro args cs r cs' hs
 obtain ⟨x,⟨b,_⟩,hp,rfl,rfl,rfl,rfl⟩:=SM_sel hs
 refine sum_runs f88_is hr_is f88_N (by show 2≤79;omega) (by simp[stpX,stpBlk]) rfl rfl rfl (.inl rfl) (hr_all hG x b (of_decide_eq_true hp)) (hr_res ..) rfl rfl (fun b' c hb=>?_) rfl rfl
 match b',hb with
 | 0,hb=>cases hb;rfl
 | 1,hb=>cases hb;rfl
 | 2,hb=>cases hb;rfl
 | n+3,hb=>simp[stpX,stpBlk]at hb
end
end Go.Ab
namespace Go.Ab
open Go Go.Proofs
structure Odr where
 seq:Int
 code:Int
 orb:Orb
instance:CodL Odr:=codIso (β:=Int×Int×Orb) (fun v=>(v.seq,v.code,v.orb)) (fun p=>⟨p.1,p.2.1,p.2.2⟩) fun _=>rfl
instance:Cod Odr where
 enc r:=.agg (List.toArray (CodL.encl r))
 dec v:=match v with
  | .agg a=>decAll Odr a.toList
  | _=>none
 law v a h:=by
  split at h
  ·rename_i x
   rw[← decAll_law h]
  ·cases h
def fresh1(r:Rdg)(now:Int):Bool:=decide (IntKind.u64.wrap (IntKind.u64.wrap now-IntKind.u64.wrap r.tk)≤500)
theorem fresh165(r:Rdg)(now:Int):fnSum Tryz.prog {gam:=[]} [] 20 165 [.val (Cod.enc r),.val (.int .i64 now)] []=bif decide (r.tk≤now) then some (.val (.bool (fresh1 r now)),[]) else some (.val (.bool false),[]):=by kernel_rfl
def freshV(p:Rdg×Int×Unit):Bool:=bif decide (p.1.tk≤p.2.1) then fresh1 p.1 p.2.1 else false
theorem okFresh:SumOk Tryz.prog 165 (S0 freshV):=S0_ok (E:={gam:=[]}) GamOk.nil 20 fun a=>by
 refine (fresh165 a.1 a.2.1).trans ?_
 unfold freshV
 cases decide (a.1.tk≤a.2.1)<;>rfl
def ackX(x:CX)(o:Two Odr Int):CX:=(x.1,{x.2.1 with ack:=o.a.seq,err:=o.b},x.2.2)
def sayX(x:CX)(n:Int):CX:=({x.1 with seen:={x.1.seen with order:=n}},x.2)
def orbX(x:CX)(o:Orb):CX:=(x.1,{x.2.1 with orb:=o,placed:=true},x.2.2)
def clrX(x:CX):CX:=(x.1,{x.2.1 with rej:=0,plan:={x.2.1.plan with faults:=0}},x.2.2)
def ordE(x:CX):Option (AV×List Con):=some (unit0,stpX x)
def gamOd(rj:CX→CX)(ro:Fr×Unit→Two Odr Int):Gam:=[(163,ySM rj),(211,S0 ro)]
theorem order166(rj:CX→CX)(ro:Fr×Unit→Two Odr Int)(x:CX)(f:Fr):fnSum Tryz.prog {gam:=gamOd rj ro} [] 20 166 [.ptr 0 0,.val (Cod.enc f)] (stpX x) =
  bif (ro (f,())).b != 0 then ordE (rj (ackX x (ro (f,())))) else bif (ro (f,())).a.code==1 then ordE (sayX (ackX x (ro (f,()))) (ro (f,())).a.code) else bif (ro (f,())).a.code==2 then ordE (sayX (ackX x (ro (f,()))) (ro (f,())).a.code) else
  bif (ro (f,())).a.code==3 then ordE (orbX (ackX x (ro (f,()))) (ro (f,())).a.orb) else bif (ro (f,())).a.code==4 then ordE (clrX (ackX x (ro (f,())))) else ordE (ackX x (ro (f,()))):=by kernel_rfl
def orderO(rj:CX→CX)(x:CX)(o:Two Odr Int):CX :=
 bif o.b != 0 then rj (ackX x o) else bif o.a.code==1 then sayX (ackX x o) o.a.code else bif o.a.code==2 then sayX (ackX x o) o.a.code else bif o.a.code==3 then orbX (ackX x o) o.a.orb else bif o.a.code==4 then clrX (ackX x o) else ackX x o
theorem ordE_cond(b:Bool)(x y:CX):(bif b then ordE x else ordE y)=ordE (bif b then x else y):=by cases b<;>rfl
theorem okOrder{rj:CX→CX}{ro:Fr×Unit→Two Odr Int}(hG:GamOk Tryz.prog (gamOd rj ro)):SumOk Tryz.prog 166 (SM (fun _ _=>true) fun x (a:Fr×Unit)=>(unitV,orderO rj x (ro a))):=SM_ok (E:={gam:=gamOd rj ro}) hG 20 fun x a _=>by
 obtain ⟨f,_⟩:=a
 refine (order166 rj ro x f).trans ?_
 simp only[ordE_cond]
 rfl
end Go.Ab
namespace Go.Ab
open Go
section
variable {P:Program} {N:Nat}
structure BytesLoop(P:Program)(N:Nat)(τ:Type)(n:Nat) where
 id:Nat
 id2:Nat
 idR:Nat
 T1:Code
 T2:Code
 rO:Array Oper
 BD:Code
 INC:Code
 ty:TypeId
 te:TypeId
 tS:Nat
 tI:Nat
 d1:Nat
 d2:Nat
 d3:Nat
 I:Int→τ→Option Addr→Nat→St
 I1:Int→τ→Option Addr→Nat→Bool→St
 J:Int→τ→Option Addr→Nat→Int→St
 K:Int→τ→Option Addr→Nat→St
 E:τ→St
 F:τ→Int→τ
structure BytesLoop.Ok{τ:Type}{n:Nat}(L:BytesLoop P N τ n):Prop where
 r0:sigOf L.rO 0=some (.indexAddr L.ty (.tmp L.tS) (.tmp L.tI),some L.d1,true)
 r1:sigOf L.rO 1=some (.load L.te (.tmp L.d1),some L.d2,true)
 r2:sigOf L.rO 2=some (.assign (.tmp L.d2),some L.d3,true)
 rn:List.range L.rO.size=[0,1,2]
 u:P.underlying L.ty=some (.slice L.te)
 ue:P.underlying L.te=some (.int .u8)
 s1:(P.info? L.te).map (·.size)=some 1
 b1:L.d1<N
 b2:L.d2<N
 b3:L.d3<N
 n1:L.d1≠L.d2
 len:∀i z a c,(L.I i z a c).tmps.length=N
 hS:∀i z a c,(L.I i z a c).tmps[L.tS]?=some (.val (.slice a n c))
 hI:∀i z a c,(L.I i z a c).tmps[L.tI]?=some (.val (.int .i64 i))
 hJ:∀i z a c p v,Wk (L.J i z a c v).u ({L.I i z a c with tmps:=(((L.I i z a c).tmps.set L.d1 (.val p)).set L.d2 (.val (.int .u8 v))).set L.d3 (.val (.int .u8 v))}:St).u∧(L.I i z a c).lo≤(L.J i z a c v).lo∧(L.J i z a c v).hi≤(L.I i z a c).hi
 hT:∀i z a c,RunsTo P N L.T1 (L.I i z a c) .normal (L.I1 i z a c (decide (i<n)))
 hY:∀i z a c,RunsTo P N L.T2 (L.I1 i z a c true) .normal (L.I i z a c)
 hX:∀i z a c,RunsTo P N L.T2 (L.I1 i z a c false) (.exit L.id) (L.E z)
 hB:∀i z a c v,RunsTo P N L.BD (L.J i z a c v) .normal (L.K i (L.F z v) a c)
 hC:∀(i:Nat) z a c,i<n→RunsTo P N L.INC (L.K i z a c) .normal (L.I (i+1:Nat) z a c)
def BytesLoop.code{τ:Type}{n:Nat}(L:BytesLoop P N τ n):Code:=.seq L.T1 (.seq L.T2 (.seq (.block L.id2 (.seq (.region L.idR L.rO false) L.BD)) L.INC))
theorem BytesLoop.rounds{τ:Type}{n:Nat}{L:BytesLoop P N τ n}(h:L.Ok){w1:World}{own1:Nat→Prop}{σ1:Nat→Option Nat}{lo1 hi1:Nat}{l:List UInt8}(hl:l.length=n){r c:Nat}(hr:r<w1.heap.size)(ho:¬ own1 r)
  (hc:∀j,j<n→w1.cell? ⟨r,j,none⟩=some (.int .u8 (l.getD j 0).toNat)) {Q:Exit→Act→World→Prop} (z0:τ)
  (hE:∀a w,StFits N w1 own1 σ1 lo1 hi1 (L.E (l.foldl (fun z b=>L.F z b.toNat) z0)) a w→Q (.exit L.id) a w) :
  ∀(m i:Nat) (act:Act) (w:World),i+m=n→StFits N w1 own1 σ1 lo1 hi1 (L.I i ((l.take i).foldl (fun z b=>L.F z b.toNat) z0) (some ⟨r,0,none⟩) c) act w→Code.rounds P L.code Q (m+1) act w:=by
 intro m
 induction m with
 | zero =>
  intro i act w hi hst
  have hi':i=n:=by omega
  subst hi'
  rw[rounds_succ]
  unfold BytesLoop.code
  refine wp_seq (h.hT _ _ _ _ w1 own1 σ1 lo1 hi1 act w hst _ fun a0 w0' h0=>?_)
  rw[decide_eq_false (by omega)]at h0
  refine wp_seq (h.hX _ _ _ _ w1 own1 σ1 lo1 hi1 a0 w0' h0 _ fun a1 w1' h1=>?_)
  rw[List.take_of_length_le (by omega)]at h1
  exact hE a1 w1' h1
 | succ m ih =>
  intro i act w hi hst
  rw[rounds_succ]
  unfold BytesLoop.code
  generalize hz:(l.take i).foldl (fun z b=>L.F z b.toNat) z0=z at hst
  refine wp_seq (h.hT i z _ c w1 own1 σ1 lo1 hi1 act w hst _ fun a0 w0' h0=>?_)
  rw[decide_eq_true (by omega)]at h0
  refine wp_seq (h.hY i z _ c w1 own1 σ1 lo1 hi1 a0 w0' h0 _ fun a1 w2 h1=>?_)
  refine wp_seq (wp_block (wp_seq (wp_region ?_)))
  rw[h.rn]
  obtain ⟨ti,hti,hs1⟩:∃ti,P.info? L.te=some ti∧ti.size=1:=by
   have :=h.s1
   cases hi:P.info? L.te with
   | none=>rw[hi]at this;cases this
   | some ti=>rw[hi]at this;exact ⟨ti,rfl,by simpa using this⟩
  refine index_fit h.r0 h.b1 (h.len ..) h.u hti h1 (b:=⟨r,0,none⟩) (len:=n) (cap:=c) (i:=i) (ik:=.i64) (h1.eval (h.hS ..)) (h1.eval (h.hI ..)) (by omega) _ fun a2 h2=>?_
  have hcell:w2.cell? ((⟨r,0,none⟩:Addr).add (i*ti.size))=some (.int .u8 ((l.getD i 0).toNat:Int)):=by
   rw[hs1,Nat.mul_one,addr_add,Nat.zero_add]
   have h3:=hc i (by omega)
   have h4:=h1.far hr ho
   simp only[World.cell?,h4]at h3 ⊢
   exact h3
  refine load_fit h.r1 h.b2 (by rw[List.length_set];exact h.len ..) h2 (b:=(⟨r,0,none⟩:Addr).add (i*ti.size)) ?_ (v:=.int .u8 ((l.getD i 0).toNat:Int)) (run_loadScalar h.ue rfl hcell) _ fun a3 h3=>?_
  ·exact h2.eval (by rw[List.getElem?_set_self (by rw[h.len];exact h.b1)])
  refine op_fit h.r2 h.b3 (by rw[List.length_set,List.length_set];exact h.len ..) h3 (v:=.int .u8 ((l.getD i 0).toNat:Int)) (fun o hop=>?_) _ fun a4 h4=>?_
  ·have e:a3.eval (.tmp L.d2)=.int .u8 ((l.getD i 0).toNat:Int):=h3.eval (by rw[List.getElem?_set_self (by rw[List.length_set,h.len];exact h.b2)])
   simp only[execOp,hop,e,Sem.run_pure]
  obtain ⟨k1,k2,k3⟩:=h.hJ i z (some ⟨r,0,none⟩) c (.pointer (some ((⟨r,0,none⟩:Addr).add (i*ti.size)))) ((l.getD i 0).toNat:Int)
  have h5:=h4.weak k1 k2 k3
  change Code.wp P L.BD _ a4 w2
  refine h.hB i z _ c _ w1 own1 σ1 lo1 hi1 a4 w2 h5 _ fun a5 w5 h6=>?_
  simp only[Ex.to,Exit.inBlock]
  refine h.hC i _ _ c (by omega) w1 own1 σ1 lo1 hi1 a5 w5 h6 _ fun a6 w6 h7=>?_
  refine ih (i+1) a6 w6 (by omega) ?_
  have e:l.take (i+1)=l.take i++[l.getD i 0]:=byte_at (by omega)
  rw[e,List.foldl_append,hz]
  exact h7
theorem BytesLoop.run{τ:Type}{n:Nat}{L:BytesLoop P N τ n}(h:L.Ok){w1:World}{own1:Nat→Prop}{σ1:Nat→Option Nat}{lo1 hi1:Nat}{l:List UInt8}(hl:l.length=n){r c:Nat}(hr:r<w1.heap.size)(ho:¬ own1 r)
  (hc:∀j,j<n→w1.cell? ⟨r,j,none⟩=some (.int .u8 (l.getD j 0).toNat)) {Q:Exit→Act→World→Prop} (z0:τ) {act:Act} {w:World} (hst:StFits N w1 own1 σ1 lo1 hi1 (L.I 0 z0 (some ⟨r,0,none⟩) c) act w)
  (hE:∀a w,StFits N w1 own1 σ1 lo1 hi1 (L.E (l.foldl (fun z b=>L.F z b.toNat) z0)) a w→Q .normal a w):(Code.block L.id (.loop L.code)).wp P Q act w:=by
 refine wp_block (wp_loop_rounds (n+1) (BytesLoop.rounds h hl hr ho hc z0 (fun a w hh=>?_) n 0 act w (by omega) hst))
 simp only[Exit.inBlock,if_true]
 exact hE a w hh
theorem conv_else{ops:Array Oper}{Q:Exit→Act→World→Prop}{w0:World}{own:Nat→Prop}{σ0:Nat→Option Nat}{lo0 hi0:Nat}{s:St}{a:Act}{w:World}{k d x:Nat}{src dst e:TypeId}{u:TypeDesc}(hs:sigOf ops k=some (.convert src dst (.tmp x),some d,true))(hd:d<N)(hlen:s.tmps.length=N)
  (hh:StFits N w0 own σ0 lo0 hi0 s a w) {str:ByteArray} (hx:s.tmps[x]?=some (.val (.string str))) (us:P.underlying src=some u) (ud:P.underlying dst=some (.slice e)) (ue:P.underlying e=some (.int .u8)) (rest:List Nat)
  (hK:∀a' w' (own1:Nat→Prop) (σ1:Nat→Option Nat) (r c:Nat),r<w'.heap.size→¬ own1 r→(∀j,j<str.size→w'.cell? ⟨r,j,none⟩=some (.int .u8 (str.data.toList.getD j 0).toNat)) →
   (∀b,s.lo≤b→b<s.hi→σ1 b=none)→StFits N w' own1 σ1 s.lo s.hi {s with tmps:=s.tmps.set d (.val (.slice (some ⟨r,0,none⟩) str.size c))} a' w'→(∀s' a' w2,StFits N w' own1 σ1 s.lo s.hi s' a' w2→StFits N w0 own σ0 lo0 hi0 s' a' w2)→wpOps P ops Q rest a' w'):wpOps P ops Q (k :: rest) a w:=by
 obtain ⟨e1,e2,e3⟩:=bytesWorld_kept w e str
 refine op_else hs hd hlen hh (v:=.slice (some ⟨w.heap.size,0,none⟩) str.size (grownCap w str.size 0 e)) (w':=Lib.bytesWorld w e str) (fun o hop=>?_) e1 e2 e3 (by rw[Lib.bytesWorld_size];omega) (fun j hj=>Lib.bytesWorld_at_old w e str j hj) rest fun a' own1 σ1 k1 kn k2 k3=>?_
 ·have hxe:a.eval (.tmp x)=.string str:=hh.eval hx
  simp only[execOp,hop,hxe,Sem.run_bind,Lib.run_convert_string_bytes w src dst e str us ud ue,Result.andThen_ok,Sem.run_pure]
 ·refine hK a' _ own1 σ1 w.heap.size _ (by rw[Lib.bytesWorld_size];omega) (fun ho=>by have :=k1 _ ho;omega) (fun j hj=>Lib.bytesWorld_cell w e str j hj) kn k2 k3
end
end Go.Ab
namespace Go.Ab
open Go Go.Proofs
structure RdOps where
 wd:Int×Unit→Int
 rt:Int×Unit→Bool
 pt:Bool→Int×Int×Int×Unit→Int×Bool
 vn:Bool→V3×Unit→Int×Bool
 vu:Bool→V3×Unit→V3×Bool
def gamRd(F:RdOps):Gam:=[(209,S0 F.wd),(87,S0 F.rt),(65,S 57 F.pt),(137,S 57 F.vn),(51,S 57 F.vu)]
noncomputable def rdR:Nat→Code
 | 0=>Tryz.f164.body.getD .skip
 | k+1=>seqR (rdR k)
noncomputable def rdL(k:Nat):Code:=seqL (rdR k)
theorem rd_is:Tryz.f164.body=some (.seq (rdL 0) (.seq (rdL 1) (.seq (rdL 2) (.seq (rdL 3) (.seq (rdL 4) (.seq (rdL 5) (.seq (rdL 6) (.seq (rdL 7) (.seq (rdL 8) (.seq (rdL 9) (.seq (rdL 10) (rdR 11))))))))))) ):=by kernel_rfl
theorem rd_N:Tryz.f164.ntmps=165:=by kernel_rfl
theorem f164_is:Tryz.prog.funcs[164]?=some Tryz.f164:=by kernel_rfl
def rN1:Nat:=4096+1*2^180
def rN2:Nat:=4096+2*2^180
def rN3:Nat:=4096+3*2^180
def rN4:Nat:=4096+4*2^180
def fRow(k:Int)(d:ByteArray):Con:=.row 74 [.val (.int .i64 k),.val (.string d)]
def gRow(k z x y w:Int):Con:=.row 100 [.val (.int .i64 k),.val (.int .i64 z),.val (.int .i64 x),.val (.int .i64 y),.val (.int .i64 w)]
def rdTm:List (Nat×AV):=[(1,.ptr 4096 0),(2,.ptr rN1 0),(3,.val (.bool false))]
def rdS(k:Int)(d:ByteArray)(tm:List (Nat×AV)):St:=gSt 165 (rdTm++tm) [(4096,fRow k d),(rN1,gRow 0 0 0 0 0)] rN2
def rdZ(r:Rdg)(b:Bool)(lo:Nat):St:=gSt 165 [(2,.ptr rN1 0),(3,.val (.bool b))] [(rN1,gRow r.kind r.tk r.v.x r.v.y r.v.z)] lo
def rdS5(k:Int)(d:ByteArray)(z:Int)(tm:List (Nat×AV)):St:=gSt 165 (rdTm++(5,.ptr rN2 0) :: tm) [(4096,fRow k d),(rN1,gRow 0 0 0 0 0),(rN2,gRow k z 0 0 0)] rN3
structure RdT where
 v:V3
 ok:Bool
 lit:Bool
 fl:Bool
def rdJ(k:Int)(d:ByteArray)(z:Int)(ds:ByteArray)(t:RdT)(tm:List (Nat×AV)):St:=gSt 165 (rdTm++[(5,.ptr rN2 0),(8,.val (.string ds)),(9,.ptr rN3 0),(10,.val (.bool t.ok)),(11,.val (.bool t.lit))]++tm) [(4096,fRow k d),(rN1,gRow 0 0 0 0 0),(rN2,gRow k z t.v.x t.v.y t.v.z),(rN3,.row 57 [.val (.bool t.fl)])] rN4
def setV(v:V3)(i:Nat)(x:Int):V3:=match i with
 | 0=>⟨x,v.y,v.z⟩
 | 1=>⟨v.x,x,v.z⟩
 | _=>⟨v.x,v.y,x⟩
def u16or(a b:Int):Int:=IntKind.u16.wrap ((BitVec.ofInt IntKind.u16.bits (IntKind.u16.wrap (IntKind.u16.wrap a*2^8)) ||| BitVec.ofInt IntKind.u16.bits (IntKind.u16.wrap b)).toNat:Int)
def byA(s:ByteArray)(i:Nat):Int:=((s.data.toList.getD i 0).toNat:Int)
def wordV(s:ByteArray):Int:=u16or (byA s 0) (byA s 1)
def wAt(ds:ByteArray)(j:Nat):Int:=wordV (ds.extract j ds.size)
def gyN(ds:ByteArray)(i:Nat):Int:=IntKind.i64.wrap (IntKind.i16.wrap (wAt ds (2*i)))
def suN(ds:ByteArray)(i:Nat):Int:=IntKind.i64.wrap (IntKind.i64.wrap (IntKind.i64.wrap (wAt ds (4*i))-IntKind.i64.wrap (wAt ds (4*i+2)))*2^24)
def suB(ds:ByteArray)(i:Nat):Bool:=decide ((if wAt ds (4*i+2)>wAt ds (4*i) then wAt ds (4*i+2) else wAt ds (4*i))≥2000)
def rdG(ds:ByteArray)(i:Nat)(t:RdT)(b:Bool):RdT:=⟨setV t.v i (IntKind.i64.wrap (gyN ds i*2^25)),b,t.lit,t.fl⟩
def rdM(F:RdOps)(ds:ByteArray)(i:Nat)(t:RdT):RdT:=⟨setV t.v i (F.pt t.fl (1099511627776,gyN ds i,100,())).1,t.ok,t.lit,(F.pt t.fl (1099511627776,gyN ds i,100,())).2⟩
def rdU(ds:ByteArray)(i:Nat)(t:RdT)(b:Bool):RdT:=⟨setV t.v i (suN ds i),t.ok,b,t.fl⟩
noncomputable def rdO5:Array Oper:=regO (seqL (rdL 4))
noncomputable def rdB0:Code:=inB (inB (seqR (rdL 4)))
noncomputable def rdT1:Code:=seqL rdB0
noncomputable def rdT2:Code:=seqL (seqR rdB0)
noncomputable def rdB1:Code:=inB (seqL (seqR (seqR rdB0)))
noncomputable def rdO7:Array Oper:=regO (seqL rdB1)
noncomputable def rdC8:Code:=seqR rdB1
noncomputable def rdC9:Code:=seqR (seqR (seqR rdB0))
noncomputable def rdLB:Code:=inB (inB (seqR (rdL 9)))
theorem rd4_is:rdL 4=.seq (.region 5 rdO5 false) (.block 0 (.loop (.seq rdT1 (.seq rdT2 (.seq (.block 1 (.seq (.region 7 rdO7 false) rdC8)) rdC9))))):=by kernel_rfl
theorem rd9_is:rdL 9=.seq (seqL (rdL 9)) (.block 2 (.loop rdLB)):=by kernel_rfl
noncomputable abbrev rdRun(F:RdOps)(c:Code)(s:St)(ks ts:List Nat):Option (Ex×St):=gRun Tryz.prog {gam:=gamRd F} 165 c s ks ts
section
variable (F:RdOps) (k z n:Int) (d ds:ByteArray) (a:Option Addr) (c:Nat) (t:RdT)
theorem rd_q0:rdRun F (rdL 0) (startS 165 [.val (Cod.enc (Fr.mk k d))] []) [4096,rN1] [1,2,3]=some (.normal,rdS k d []):=by kernel_rfl
theorem rd_q1:rdRun F (rdL 1) (rdS k d []) [4096,rN1] [1,2,3,4]=some (.normal,rdS k d [(4,.val (.int .i64 (F.wd (k,()))))]):=by kernel_rfl
theorem rd_q2:rdRun F (rdL 2) (rdS k d [(4,.val (.int .i64 n))]) [4096,rN1] [1,2,3]=bif n==0 then some (.ret,rdS k d []) else bif ((d.size:Nat):Int) != IntKind.i64.wrap (6+IntKind.i64.wrap (2*n)) then some (.ret,rdS k d []) else some (.normal,rdS k d []):=by kernel_rfl
theorem rd_q3:rdRun F (rdL 3) (rdS k d []) [4096,rN1,rN2] [1,2,3,5]=some (.normal,rdS5 k d 0 []):=by kernel_rfl
theorem rd_q5:rdRun F (rdL 5) (rdS5 k d z []) [4096,rN1,rN2] [1,2,3,5,8]=bif decide (0≤(6:Int)∧6≤(d.size:Int)∧(d.size:Int)≤(d.size:Int)) then some (.normal,rdS5 k d z [(8,.val (.string (d.extract 6 d.size)))]) else none:=by kernel_rfl
theorem rd_q6:rdRun F (rdL 6) (rdS5 k d z [(8,.val (.string ds))]) [4096,rN1,rN2,rN3] [1,2,3,5,8,9]=some (.normal,gSt 165 (rdTm++[(5,.ptr rN2 0),(8,.val (.string ds)),(9,.ptr rN3 0)]) [(4096,fRow k d),(rN1,gRow 0 0 0 0 0),(rN2,gRow k z 0 0 0),(rN3,.row 57 [.val (.bool false)])] rN4):=by kernel_rfl
theorem rd_q7:rdRun F (rdL 7) (gSt 165 (rdTm++[(5,.ptr rN2 0),(8,.val (.string ds)),(9,.ptr rN3 0)]) [(4096,fRow k d),(rN1,gRow 0 0 0 0 0),(rN2,gRow k z 0 0 0),(rN3,.row 57 [.val (.bool false)])] rN4) [4096,rN1,rN2,rN3] [1,2,3,5,8,9,10]=some (.normal,gSt 165 (rdTm++[(5,.ptr rN2 0),(8,.val (.string ds)),(9,.ptr rN3 0),(10,.val (.bool (F.rt (z,()))))]) [(4096,fRow k d),(rN1,gRow 0 0 0 0 0),(rN2,gRow k z 0 0 0),(rN3,.row 57 [.val (.bool false)])] rN4):=by kernel_rfl
theorem rd_q8(b:Bool):rdRun F (rdL 8) (gSt 165 (rdTm++[(5,.ptr rN2 0),(8,.val (.string ds)),(9,.ptr rN3 0),(10,.val (.bool b))]) [(4096,fRow k d),(rN1,gRow 0 0 0 0 0),(rN2,gRow k z 0 0 0),(rN3,.row 57 [.val (.bool false)])] rN4) [4096,rN1,rN2,rN3] [1,2,3,5,8,9,10,11]=some (.normal,rdJ k d z ds ⟨⟨0,0,0⟩,b,false,false⟩ []):=by kernel_rfl
theorem rd_q9:rdRun F (seqL (rdL 9)) (rdJ k d z ds t []) [4096,rN1,rN2,rN3] [1,2,3,5,8,9,10,11,60]=some (.normal,rdJ k d z ds t [(60,.val (.int .i64 0))]):=by kernel_rfl
theorem rd_qX:rdRun F rdLB (rdJ k d z ds t [(60,.val (.int .i64 3))]) [4096,rN1,rN2,rN3] [1,2,3,5,8,9,10,11]=some (.exit 2,rdJ k d z ds t []):=by kernel_rfl
theorem rd_q10m:rdRun F (rdL 10) (rdJ 3 d z ds t []) [4096,rN1,rN2,rN3] [1,2,3,5,8,9,10,11]=bif t.ok then bif decide ((F.vn t.fl (t.v,())).1≥1099511627776) then some (.normal,rdJ 3 d z ds ⟨t.v,decide ((F.vn t.fl (t.v,())).1≤131941395333120),t.lit,(F.vn t.fl (t.v,())).2⟩ []) else some (.normal,rdJ 3 d z ds ⟨t.v,false,t.lit,(F.vn t.fl (t.v,())).2⟩ []) else some (.normal,rdJ 3 d z ds ⟨t.v,false,t.lit,(F.vn t.fl (t.v,())).2⟩ []):=by kernel_rfl
theorem rd_q10s:rdRun F (rdL 10) (rdJ 2 d z ds t []) [4096,rN1,rN2,rN3] [1,2,3,5,8,9,10,11]=bif t.ok then bif t.lit then some (.normal,rdJ 2 d z ds ⟨(F.vu t.fl (t.v,())).1,!(F.vu t.fl (t.v,())).2,t.lit,(F.vu t.fl (t.v,())).2⟩ []) else some (.normal,rdJ 2 d z ds ⟨(F.vu t.fl (t.v,())).1,false,t.lit,(F.vu t.fl (t.v,())).2⟩ []) else some (.normal,rdJ 2 d z ds ⟨(F.vu t.fl (t.v,())).1,false,t.lit,(F.vu t.fl (t.v,())).2⟩ []):=by kernel_rfl
theorem rd_q10g:rdRun F (rdL 10) (rdJ 1 d z ds t []) [4096,rN1,rN2,rN3] [1,2,3,5,8,9,10,11]=some (.normal,rdJ 1 d z ds t []):=by kernel_rfl
theorem rd_q11:rdRun F (rdR 11) (rdJ k d z ds t []) [rN1] [2,3]=bif !t.ok then some (.ret,rdZ ⟨0,0,⟨0,0,0⟩⟩ false rN4) else some (.ret,rdZ ⟨k,z,t.v⟩ true rN4):=by kernel_rfl
end
end Go.Ab
