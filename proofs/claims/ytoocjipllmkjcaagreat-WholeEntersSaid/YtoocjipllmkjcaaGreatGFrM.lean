/- A part of the proofs: lemmas, no statement of their own; no condition. -/
import Derived.Test.YtoocjipllmkjcaaGreatGFrK
import Derived.Laws.Strings
import Derived.Laws.Concat
import Derived.Test.YtoocjipllmkjcaaGreatGMoL
import Derived.Test.YtoocjipllmkjcaaGreatGFuC0
import Derived.Test.YtoocjipllmkjcaaGreatGTrB
import Derived.Test.YtoocjipllmkjcaaGreatGMtJ
import Derived.Lib.Bytealg
import Derived.Laws.Externs
import Derived.Test.YtoocjipllmkjcaaGreatGAbK
set_option linter.unusedSimpArgs false
namespace Go.Ab
open Go Go.Proofs
theorem H0y(s:ByteArray):bsL s.data.toList=s:=by unfold bsL;rw[Array.toArray_toList]
theorem G0b(l:List UInt8):(bsL l).data.toList=l:=by unfold bsL;simp
theorem W0c(a b:List UInt8):bsL a++bsL b=bsL (a++b):=ByteArray.mk_append_mk a b
theorem K0n(l:List UInt8)(i j:Nat):(bsL l).extract i j=bsL ((l.drop i).take (j-i)):=by
 have h:((bsL l).extract i j).data.toList=(l.drop i).take (j-i):=by
  rw[ByteArray.data_extract]
  unfold bsL
  simp
 rw[← h,H0y]
theorem M4g(x y:Nat)(hx:x<256)(hy:y<256):List.foldl R0j ByteArray.empty [(x:Int),(y:Int)]=bsL [UInt8.ofNat x,UInt8.ofNat y]:=by
 have :=L1a [UInt8.ofNat x,UInt8.ofNat y]
 rw[List.map_cons,List.map_cons,List.map_nil,N0z hx,N0z hy]at this
 exact this
theorem N2d:A0h Tryz.prog 110 (S0w (fun _=>true) fun (p:Fr×Unit)=>K0d p.1):=by
 have hG:GamOk Tryz.prog [(192,S0w szOk crcN)]:=.cons J5w .nil
 refine X0x fun a w _=>?_
 obtain ⟨⟨k,s⟩,_⟩:=a
 refine Calls.mono (calls_of_sum (E:={gam:=[(192,S0w szOk crcN)]}) hG (d:=20) (f:=110) (vals:=[.agg #[.int .i64 k,.string s]]) (v:=Cod.enc (K0d ⟨k,s⟩)) ((L5u szOk crcN k s).trans ?_) w) fun e w' h=>⟨_,h.1,h.2,rfl⟩
 unfold K0d
 dsimp only
 by_cases c1:k<0
 ·rw[decide_eq_true c1];rfl
 by_cases c2:k>255
 ·rw[decide_eq_false c1,decide_eq_true c2];rfl
 by_cases c3:(s.size:Int)>64
 ·rw[decide_eq_false c1,decide_eq_false c2,decide_eq_true c3];rfl
 rw[decide_eq_false c1,decide_eq_false c2,decide_eq_false c3]
 simp only[cond_false,Bool.or_false]
 obtain ⟨n,rfl⟩:∃n:Nat,k=n:=⟨k.toNat,by omega⟩
 have hdl:s.data.toList.length=s.size:=rfl
 have hb:List.foldl R0j ByteArray.empty [IntKind.u8.wrap (n:Int),IntKind.u8.wrap (s.size:Int)]++s=bsL (G0j n s.data.toList):=by
  rw[D1z,D1z,Nat.mod_eq_of_lt (by omega),Nat.mod_eq_of_lt (by omega),M4g _ _ (by omega) (by omega)]
  have e:=W0c [UInt8.ofNat n,UInt8.ofNat s.size] s.data.toList
  rw[H0y]at e
  rw[e]
  rfl
 have hhs:(List.foldl R0j ByteArray.empty [IntKind.u8.wrap (n:Int),IntKind.u8.wrap (s.size:Int)]).size=2:=rfl
 rw[hb,hhs]
 have hbl:(G0j n s.data.toList).length=2+s.size:=by simp[G0j,hdl];omega
 have hcl:=W0g (G0j n s.data.toList) 65535 (by omega)
 have hc:((crcN (bsL (G0j n s.data.toList),())).n:Int)=(crcF (G0j n s.data.toList) 65535:Nat):=by unfold crcN;rw[G0b]
 have hsz:szOk (bsL (G0j n s.data.toList),())=true:=decide_eq_true (by show (bsL _).size≤_;rw[B0z,hbl];omega)
 rw[hc,hsz]
 generalize hcr:crcF (G0j n s.data.toList) 65535=cr at *
 have e1:IntKind.u8.wrap (IntKind.u16.wrap ((cr:Int).tdiv 256))=((cr / 256:Nat):Int):=by
  have:(cr:Int).tdiv 256=((cr / 256:Nat):Int):=rfl
  rw[this,Y0q,Nat.mod_eq_of_lt (by omega),D1z,Nat.mod_eq_of_lt (by omega)]
 have e2:IntKind.u8.wrap ((cr:Int).tmod 256)=((cr % 256:Nat):Int):=by
  have:(cr:Int).tmod 256=((cr % 256:Nat):Int):=rfl
  rw[this,D1z,Nat.mod_eq_of_lt (by omega)]
 rw[e1,e2,M4g _ _ (by omega) (by omega)]
 have e165:(⟨#[165]⟩:ByteArray)=bsL [165]:=rfl
 rw[e165,W0c,W0c,B0z,B0z,B0z,B0z]
 have hw:[165]++G0j n s.data.toList++[UInt8.ofNat (cr / 256),UInt8.ofNat (cr % 256)]=H0m n s.data.toList:=by unfold H0m;rw[hcr];rfl
 rw[hw,decide_eq_false (by omega),decide_eq_false (by rw[hbl];simp;omega),decide_eq_false (by simp[hbl];omega)]
 rfl
def B0d(s:ByteArray):Two Fr Bool :=
 let l:=s.data.toList
 let d:=(l.drop 3).take (l.length-5)
 let k:=(l.getD 1 0).toNat
 if 5≤l.length∧d.length≤64∧l=H0m k d then ⟨⟨k,bsL d⟩,true⟩ else ⟨⟨0,⟨#[]⟩⟩,false⟩
theorem D3a{l:List UInt8}(h:5≤l.length):∃a k n d p q,l=a :: k :: n :: (d++[p,q]):=by
 match l,h with
 | a :: k :: n :: r,h =>
  have hr:2≤r.length:=by simp at h;omega
  refine ⟨a,k,n,r.take (r.length-2),r.getD (r.length-2) 0,r.getD (r.length-1) 0,?_⟩
  congr 3
  have e:r=r.take (r.length-2)++r.drop (r.length-2):=(List.take_append_drop ..).symm
  have e2:r.drop (r.length-2)=[r.getD (r.length-2) 0,r.getD (r.length-1) 0]:=by
   rw[List.drop_eq_getElem_cons (by omega),List.drop_eq_getElem_cons (by omega),List.drop_eq_nil_of_le (by omega)]
   rw[List.getD_eq_getElem?_getD,List.getD_eq_getElem?_getD,List.getElem?_eq_getElem (by omega),List.getElem?_eq_getElem (by omega)]
   have:r.length-2+1=r.length-1:=by omega
   simp only[this,Option.getD_some]
  rw[← e2]
  exact e
theorem W1r{a:UInt8}{n:Nat}(hn:n<256):a=UInt8.ofNat n↔a.toNat=n:=by
 constructor
 ·intro h
  have :=N0z hn
  rw[h]
  omega
 ·intro h
  apply UInt8.toNat_inj.1
  have :=N0z hn
  omega
section
variable {s:ByteArray} {a k n p q:UInt8} {d:List UInt8} (hl:s.data.toList=a :: k :: n :: (d++[p,q]))
include hl
theorem Y1p:B0d s=if d.length≤64∧a=165∧n=UInt8.ofNat d.length∧p=UInt8.ofNat (crcF (k :: n :: d) 65535 / 256)∧q=UInt8.ofNat (crcF (k :: n :: d) 65535 % 256) then ⟨⟨k.toNat,bsL d⟩,true⟩ else ⟨⟨0,⟨#[]⟩⟩,false⟩:=by
 unfold B0d
 dsimp only
 rw[hl]
 have e1:((a :: k :: n :: (d++[p,q])).drop 3).take ((a :: k :: n :: (d++[p,q])).length-5)=d:=by
  have:(a :: k :: n :: (d++[p,q])).length-5=d.length:=by simp
  rw[this]
  simp
 have e2:(a :: k :: n :: (d++[p,q])).getD 1 0=k:=rfl
 rw[e1,e2]
 have hk:UInt8.ofNat k.toNat=k:=UInt8.ofNat_toNat
 have key:(5≤(a :: k :: n :: (d++[p,q])).length∧d.length≤64∧a :: k :: n :: (d++[p,q])=H0m k.toNat d) ↔
   (d.length≤64∧a=165∧n=UInt8.ofNat d.length∧p=UInt8.ofNat (crcF (k :: n :: d) 65535 / 256)∧q=UInt8.ofNat (crcF (k :: n :: d) 65535 % 256)):=by
  unfold H0m G0j
  rw[hk]
  constructor
  ·rintro ⟨_,h2,h3⟩
   simp only[List.cons_append,List.cons.injEq,true_and]at h3
   obtain ⟨h4,h5,h6⟩:=h3
   rw[← h5]at h6
   have :=List.append_cancel_left h6
   simp only[List.cons.injEq,and_true]at this
   exact ⟨h2,h4,h5,this⟩
  ·rintro ⟨h2,h4,h5,h6,h7⟩
   refine ⟨by simp,h2,?_⟩
   rw[← h5,← h6,← h7,h4]
   rfl
 by_cases h:d.length≤64∧a=165∧n=UInt8.ofNat d.length∧p=UInt8.ofNat (crcF (k :: n :: d) 65535 / 256)∧q=UInt8.ofNat (crcF (k :: n :: d) 65535 % 256)
 ·rw[if_pos h,if_pos (key.2 h)]
 ·rw[if_neg h,if_neg fun g=>h (key.1 g)]
theorem Q2r:s.size=d.length+5:=by
 have h:s.data.toList.length=s.size:=rfl
 rw[← h,hl]
 simp
theorem V4x:J0n s 0=a.toNat:=by unfold J0n;rw[hl];rfl
theorem W3e:J0n s 1=k.toNat:=by unfold J0n;rw[hl];rfl
theorem V4y:J0n s 2=n.toNat:=by unfold J0n;rw[hl];rfl
theorem V4z{i:Int}(hi:i=d.length+3):J0n s i=p.toNat:=by
 have:i.toNat=d.length+3:=by omega
 unfold J0n
 rw[hl,this]
 simp[List.getD_eq_getElem?_getD]
theorem W4a{i:Int}(hi:i=d.length+4):J0n s i=q.toNat:=by
 have:i.toNat=d.length+4:=by omega
 unfold J0n
 rw[hl,this]
 simp[List.getD_eq_getElem?_getD]
theorem cut1{m:Nat}(hm:m=d.length+3):s.extract 1 m=bsL (k :: n :: d):=by
 rw[← H0y s,K0n,hl]
 have:m-1=d.length+2:=by omega
 rw[this]
 simp
theorem cut3{m:Nat}(hm:m=d.length+3):s.extract 3 m=bsL d:=by
 rw[← H0y s,K0n,hl]
 have:m-3=d.length:=by omega
 rw[this]
 simp
end
theorem L4x{p q:Nat}(hp:p<256)(hq:q<256):orW (IntKind.u16.wrap (IntKind.u16.wrap (p:Int)*2^min (Int.toNat 8) IntKind.u16.bits)) (IntKind.u16.wrap (q:Int))=((p*256+q:Nat):Int):=by
 have e8:min (Int.toNat 8) IntKind.u16.bits=8:=rfl
 rw[e8,Y0q,Nat.mod_eq_of_lt (by omega),shl8,Y0q,Nat.mod_eq_of_lt (by omega),Nat.mod_eq_of_lt (by omega)]
 have h:(BitVec.ofInt IntKind.u16.bits ((p*256:Nat):Int) ||| BitVec.ofInt IntKind.u16.bits (q:Int)).toNat=p*256+q:=by
  show (BitVec.ofInt 16 ((p*256:Nat):Int) ||| BitVec.ofInt 16 (q:Int)).toNat=_
  rw[BitVec.ofInt_natCast,BitVec.ofInt_natCast,BitVec.toNat_or,BitVec.toNat_ofNat,BitVec.toNat_ofNat,Nat.mod_eq_of_lt (by omega),Nat.mod_eq_of_lt (by omega)]
  have :=Nat.two_pow_add_eq_or_of_lt (i:=8) (b:=q) (by omega) p
  rw[show 2^8*p=p*256 by omega]at this
  rw[this]
 unfold orW
 rw[h,Y0q,Nat.mod_eq_of_lt (by omega)]
theorem H1d{s:ByteArray}(h:s.size<5):B0d s=⟨⟨0,⟨#[]⟩⟩,false⟩:=by
 unfold B0d
 dsimp only
 have hl:s.data.toList.length=s.size:=rfl
 rw[if_neg fun g=>by omega]
theorem L4g:A0h Tryz.prog 208 (S0w szOk fun (p:ByteArray×Unit)=>B0d p.1):=by
 have hG:GamOk Tryz.prog [(231,S0w szOk crcN)]:=.cons J5z .nil
 refine X0x fun a w hp=>?_
 obtain ⟨s,_⟩:=a
 have hsz:s.size≤4611686018427387904:=of_decide_eq_true hp
 refine Calls.mono (calls_of_sum (E:={gam:=[(231,S0w szOk crcN)]}) hG (d:=20) (f:=208) (vals:=[.string s]) (v:=Cod.enc (B0d s)) ((L4u szOk crcN s).trans ?_) w) fun e w' h=>⟨_,h.1,h.2,rfl⟩
 dsimp only
 by_cases h5:(s.size:Int)<5
 ·rw[decide_eq_true h5,H1d (by omega)];rfl
 rw[decide_eq_false h5,cond_false]
 obtain ⟨a,k,n,d,p,q,hl⟩:=D3a (l:=s.data.toList) (by have hl:s.data.toList.length=s.size:=rfl;omega)
 have hs:=Q2r hl
 have ha:=a.toNat_lt
 have hk:=k.toNat_lt
 have hn:=n.toNat_lt
 have hpp:=p.toNat_lt
 have hq:=q.toNat_lt
 have hcl:=W0g (k :: n :: d) 65535 (by omega)
 have w2:IntKind.i64.wrap ((s.size:Int)-2)=((d.length+3:Nat):Int):=by rw[C0k];omega
 have w5:IntKind.i64.wrap ((s.size:Int)-5)=(d.length:Int):=by rw[C0k];omega
 have w3:IntKind.i64.wrap (((d.length+3:Nat):Int)+1)=((d.length+4:Nat):Int):=by rw[C0k];omega
 have wn:IntKind.i64.wrap (n.toNat:Int)=(n.toNat:Int):=by rw[C0k];omega
 have wk:IntKind.i64.wrap (k.toNat:Int)=(k.toNat:Int):=by rw[C0k];omega
 have cut1':s.extract (Int.toNat 1) (((d.length+3:Nat):Int)).toNat=bsL (k :: n :: d):=cut1 hl (by omega)
 have cut3':s.extract (Int.toNat 3) (((d.length+3:Nat):Int)).toNat=bsL d:=cut3 hl (by omega)
 have hsum:((crcN (bsL (k :: n :: d),())).n:Int)=(crcF (k :: n :: d) 65535:Nat):=by unfold crcN;rw[G0b]
 rw[Y1p hl,w2,w3,w5,V4x hl,W3e hl,V4y hl,wn,wk,V4z hl (by omega),W4a hl (by omega),L4x hpp hq,cut1',cut3',hsum]
 have hpre:szOk (bsL (k :: n :: d),())=true:=decide_eq_true (by show (bsL _).size≤_;rw[B0z];simp;omega)
 rw[hpre,decide_eq_true (p:=0≤(0:Int)∧0<(s.size:Int)) (by omega),decide_eq_true (p:=0≤(2:Int)∧2<(s.size:Int)) (by omega),decide_eq_true (p:=0≤(1:Int)∧1≤((d.length+3:Nat):Int)∧((d.length+3:Nat):Int)≤(s.size:Int)) (by omega),
  decide_eq_true (p:=0≤((d.length+3:Nat):Int)∧((d.length+3:Nat):Int)<(s.size:Int)) (by omega),decide_eq_true (p:=0≤((d.length+4:Nat):Int)∧((d.length+4:Nat):Int)<(s.size:Int)) (by omega),decide_eq_true (p:=0≤(1:Int)∧1<(s.size:Int)) (by omega),
  decide_eq_true (p:=0≤(3:Int)∧3≤((d.length+3:Nat):Int)∧((d.length+3:Nat):Int)≤(s.size:Int)) (by omega)]
 simp only[cond_true,cond_false]
 by_cases c1:a=165
 ·have b1:((a.toNat:Int) != 165)=false:=by rw[c1];rfl
  rw[b1,cond_false]
  by_cases c2:(n.toNat:Int)=(d.length:Int)
  ·have b2:((n.toNat:Int) != (d.length:Int))=false:=by rw[c2];simp
   rw[b2,cond_false]
   by_cases c3:(d.length:Int)>64
   ·rw[decide_eq_true c3,if_neg fun g=>by omega];rfl
   ·rw[decide_eq_false c3,cond_false]
    by_cases c4:crcF (k :: n :: d) 65535=p.toNat*256+q.toNat
    ·have b4:(((crcF (k :: n :: d) 65535:Nat):Int) != ((p.toNat*256+q.toNat:Nat):Int))=false:=by rw[c4];simp
     rw[b4,cond_false,if_pos ⟨by omega,c1,(W1r (by omega)).2 (by omega),(W1r (by omega)).2 (by omega),(W1r (by omega)).2 (by omega)⟩]
     rfl
    ·have b4:(((crcF (k :: n :: d) 65535:Nat):Int) != ((p.toNat*256+q.toNat:Nat):Int))=true:=bne_iff_ne.2 (by omega)
     rw[b4,if_neg fun g=>by
      have g1:=(W1r (a:=p) (by omega)).1 g.2.2.2.1
      have g2:=(W1r (a:=q) (by omega)).1 g.2.2.2.2
      omega]
     rfl
  ·have b2:((n.toNat:Int) != (d.length:Int))=true:=bne_iff_ne.2 c2
   rw[b2,if_neg fun g=>by
    have g1:=(W1r (a:=n) (by omega)).1 g.2.2.1
    omega]
   rfl
 ·have b1:((a.toNat:Int) != 165)=true:=bne_iff_ne.2 fun e=>c1 ((W1r (n:=165) (by omega)).2 (by omega))
  rw[b1,if_neg fun g=>c1 g.2.1]
  rfl
theorem L4v(pre:Fr×Unit→Bool)(g:Fr×Unit→Two ByteArray Bool)(s:ByteArray):fnSum Tryz.prog {gam:=[(110,S0w pre g)]} [] 20 29 [.val (.string s)] [] =
  let L:Int:=s.size
  let m:=IntKind.i64.wrap (L-2)
  let x:Fr:=⟨IntKind.i64.wrap (J0n s 1),s.extract (Int.toNat 3) m.toNat⟩
  bif decide (L<5) then noF else bif decide (0≤(1:Int)∧1<L) then bif decide (0≤(3:Int)∧3≤m∧m≤L) then bif pre (x,()) then
   bif !(g (x,())).b then noF else bif bif false then true else !((g (x,())).a.toList==s.toList) then noF else some (.val (.tuple #[.agg #[.int .i64 x.kind,.string x.data],.bool true]),[])
  else none else none else none:=by kernel_rfl
theorem B1k:A0h Tryz.prog 29 (S0w szOk fun (p:ByteArray×Unit)=>B0d p.1):=by
 have hG:GamOk Tryz.prog [(110,S0w (fun _=>true) fun (p:Fr×Unit)=>K0d p.1)]:=.cons N2d .nil
 refine X0x fun a w hp=>?_
 obtain ⟨s,_⟩:=a
 have hsz:s.size≤4611686018427387904:=of_decide_eq_true hp
 refine Calls.mono (calls_of_sum (E:={gam:=[(110,S0w (fun _=>true) fun (p:Fr×Unit)=>K0d p.1)]}) hG (d:=20) (f:=29) (vals:=[.string s]) (v:=Cod.enc (B0d s)) ((L4v (fun _=>true) (fun p=>K0d p.1) s).trans ?_) w) fun e w' h=>⟨_,h.1,h.2,rfl⟩
 dsimp only
 by_cases h5:(s.size:Int)<5
 ·rw[decide_eq_true h5,H1d (by omega)];rfl
 rw[decide_eq_false h5,cond_false]
 obtain ⟨a,k,n,d,p,q,hl⟩:=D3a (l:=s.data.toList) (by have hl:s.data.toList.length=s.size:=rfl;omega)
 have hs:=Q2r hl
 have hk:=k.toNat_lt
 have w2:IntKind.i64.wrap ((s.size:Int)-2)=((d.length+3:Nat):Int):=by rw[C0k];omega
 have wk:IntKind.i64.wrap (k.toNat:Int)=(k.toNat:Int):=by rw[C0k];omega
 have cut3':s.extract (Int.toNat 3) (((d.length+3:Nat):Int)).toNat=bsL d:=cut3 hl (by omega)
 rw[w2,W3e hl,wk,cut3',decide_eq_true (p:=0≤(1:Int)∧1<(s.size:Int)) (by omega),decide_eq_true (p:=0≤(3:Int)∧3≤((d.length+3:Nat):Int)∧((d.length+3:Nat):Int)≤(s.size:Int)) (by omega)]
 simp only[cond_true,cond_false]
 have hd64:(bsL d).size=d.length:=B0z d
 have hop:B0d s=if d.length≤64∧s=bsL (H0m k.toNat d) then ⟨⟨k.toNat,bsL d⟩,true⟩ else ⟨⟨0,⟨#[]⟩⟩,false⟩:=by
  unfold B0d
  dsimp only
  have e1:(s.data.toList.drop 3).take (s.data.toList.length-5)=d:=by
   have:(s.data.toList).length-5=d.length:=by rw[hl];simp
   rw[this,hl]
   simp
  have e2:s.data.toList.getD 1 0=k:=by rw[hl];rfl
  have e3:5≤s.data.toList.length:=by rw[hl];simp
  have e4:s.data.toList=H0m k.toNat d↔s=bsL (H0m k.toNat d):=by
   constructor
   ·intro h;rw[← h,H0y]
   ·intro h;rw[h,G0b]
  rw[e1,e2]
  by_cases h:d.length≤64∧s=bsL (H0m k.toNat d)
  ·rw[if_pos h,if_pos ⟨e3,h.1,e4.2 h.2⟩]
  ·rw[if_neg h,if_neg fun g=>h ⟨g.2.1,e4.1 g.2.2⟩]
 rw[hop]
 by_cases c3:(d.length:Int)>64
 ·have hw:K0d ⟨(k.toNat:Int),bsL d⟩=⟨⟨#[]⟩,false⟩:=by
   unfold K0d
   dsimp only
   rw[hd64,decide_eq_true c3,Bool.or_true,Bool.or_true]
   rfl
  rw[hw,if_neg fun g=>by omega]
  rfl
 ·have hw:K0d ⟨(k.toNat:Int),bsL d⟩=⟨bsL (H0m k.toNat d),true⟩:=by
   unfold K0d
   dsimp only
   rw[hd64,decide_eq_false c3,decide_eq_false (by omega),decide_eq_false (by omega),G0b]
   rfl
  rw[hw]
  simp only[Bool.not_true,cond_false]
  have hbeq:((bsL (H0m k.toNat d)).toList==s.toList)=decide (s=bsL (H0m k.toNat d)):=by
   rw[ByteArray.toList_eq,ByteArray.toList_eq,G0b]
   by_cases h:s=bsL (H0m k.toNat d)
   ·rw[decide_eq_true h,h,G0b];simp
   ·rw[decide_eq_false h]
    apply beq_eq_false_iff_ne.2
    intro g
    exact h (by rw[g,H0y])
  rw[hbeq]
  by_cases h:s=bsL (H0m k.toNat d)
  ·rw[decide_eq_true h,if_pos ⟨by omega,h⟩];rfl
  ·rw[decide_eq_false h,if_neg fun g=>h g.2];rfl
end Go.Ab
namespace Go.Ab
open Go
section
variable {P:Program} {N:Nat} {w0:World} {own:Nat→Prop} {σ0:Nat→Option Nat} {lo0 hi0:Nat} {s:St} {a:Act} {w:World}
theorem A0j.elsewhere(h:A0j N w0 own σ0 lo0 hi0 s a w){w':World}(h1:w'.os=w.os)(h2:w'.tape=w.tape)(h3:w'.output=w.output)(hg:w.heap.size≤w'.heap.size)(hs:∀j,j<w.heap.size→w'.heap[j]?=w.heap[j]?) :
  ∃(own1:Nat→Prop) (σ1:Nat→Option Nat),(∀r,own1 r→r<w.heap.size)∧(A0j N w' own1 σ1 s.lo s.hi s a w'∧∀b,s.lo≤b→b<s.hi→σ1 b=none)∧∀s' a' w2,A0j N w' own1 σ1 s.lo s.hi s' a' w2→A0j N w0 own σ0 lo0 hi0 s' a' w2:=by
 obtain ⟨σ,u,hf,hsub,hn,hle,hout,hlo,hhi⟩:=h
 have hw:=hf.sub hsub
 refine ⟨fun r=>∃b,σ b=some r∧((∃e cs,s.u (.blk b)=some (.row e cs))∨∃o,s.u (.blk b)=some (.obj o)),σ,fun r ⟨b,hb,_⟩=>hw.bound b r hb,?_,?_⟩
 ·refine ⟨⟨σ,s.u,?_,Sub.refl _,hn,Le.refl σ,fun b hb _=>hb,Nat.le_refl _,Nat.le_refl _⟩,hn⟩
  refine {hw with row:=fun b e cs hb=>?_,obj:=fun b o hb=>?_,bound:=fun b r hb=>Nat.lt_of_lt_of_le (hw.bound b r hb) hg,ownsR:=fun b e cs r hb hr=>.inl ⟨b,hr,.inl ⟨e,cs,hb⟩⟩,ownsO:=fun b o r hb hr=>.inl ⟨b,hr,.inr ⟨o,hb⟩⟩,os:=rfl,tape:=rfl,output:=rfl,grown:=Nat.le_refl _,frame:=fun _ _ _=>rfl}
  ·obtain ⟨r,vs,k1,k2,k3⟩:=hw.row b e cs hb
   exact ⟨r,vs,k1,by rw[hs r (hw.bound b r k1)];exact k2,k3⟩
  ·obtain ⟨r,o',k1,k2,k3⟩:=hw.obj b o hb
   exact ⟨r,o',k1,by rw[hs r (hw.bound b r k1)];exact k2,k3⟩
 ·rintro s' a' w2 ⟨σ2,u2,hf2,hs2,hn2,hl2,ho2,hlo2,hhi2⟩
  have key:∀r,((∃b,σ b=some r∧((∃e cs,s.u (.blk b)=some (.row e cs))∨∃o,s.u (.blk b)=some (.obj o)))∨w'.heap.size≤r)→own r∨w0.heap.size≤r:=by
   intro r hr
   rcases hr with ⟨b,hb,⟨e,cs,hc⟩ | ⟨o,hc⟩⟩ | hr
   ·exact hw.ownsR b e cs r hc hb
   ·exact hw.ownsO b o r hc hb
   ·have :=hw.grown
    exact .inr (by omega)
  refine ⟨σ2,u2,{hf2 with ownsR:=fun b e cs r hb hr=>key r (hf2.ownsR b e cs r hb hr),ownsO:=fun b o r hb hr=>key r (hf2.ownsO b o r hb hr),os:=hf2.os.trans (h1.trans hw.os),tape:=hf2.tape.trans (h2.trans hw.tape),output:=hf2.output.trans (h3.trans hw.output),grown:=Nat.le_trans hw.grown (Nat.le_trans hg hf2.grown),frame:=fun k hk hno=>?_},hs2,hn2,hle.trans hl2,fun b hb hb'=>ho2 b (hout b hb hb') (by omega),by omega,by omega⟩
  have hkw:=hw.grown
  refine (hf2.frame k (by omega) fun ho=>?_).trans ((hs k (by omega)).trans (hw.frame k hk hno))
  rcases key k (.inl ho) with h | h
  ·exact hno h
  ·omega
theorem A0j.put(h:A0j N w0 own σ0 lo0 hi0 s a w){d:Nat}(hd:d<N)(hlen:s.tmps.length=N)(v:Value):A0j N w0 own σ0 lo0 hi0 {s with tmps:=s.tmps.set d (.val v)} (a.put (some d) v) w:=by
 obtain ⟨σ,u,hf,hs,hn,hle,hout,hlo,hhi⟩:=h
 refine ⟨σ,upd1 u (.tmp d) (.av (.val v)),hf.put hd (by simp only[Rel]),fun l c h=>?_,hn,hle,hout,hlo,hhi⟩
 cases l with
 | blk b=>simpa[upd1]using hs (.blk b) c h
 | tmp t =>
  by_cases e:t=d
  ·subst e
   simp only[St.u,stU,List.getElem?_set_self (by omega:t<s.tmps.length),Option.map_some,Option.some.injEq]at h
   subst h
   simp[upd1]
  ·simp only[St.u,stU,List.getElem?_set_ne (Ne.symm e)]at h
   have:upd1 u (.tmp d) (.av (.val v)) (.tmp t)=u (.tmp t):=by simp[upd1,e]
   rw[this]
   exact hs _ _ h
theorem A0j.eval(h:A0j N w0 own σ0 lo0 hi0 s a w){t:Nat}{v:Value}(ht:s.tmps[t]?=some (.val v)):a.eval (.tmp t)=v:=by
 obtain ⟨σ,u,hf,hs,_⟩:=h
 obtain ⟨x,h1,h2⟩:=hf.tmp t (.val v) (hs _ _ (by simp[St.u,stU,ht]))
 simp only[Rel]at h2
 subst h2
 simp[Act.eval,h1]
theorem A0j.far(h:A0j N w0 own σ0 lo0 hi0 s a w){k:Nat}(hk:k<w0.heap.size)(ho:¬ own k):w.heap[k]?=w0.heap[k]?:=by
 obtain ⟨σ,u,hf,_⟩:=h
 exact hf.frame k hk ho
theorem A0j.lower(h:A0j N w0 own σ0 lo0 hi0 s a w)(hnone:∀b,lo0≤b→b<hi0→σ0 b=none)(hok:A0p lo0 s=true)(hhi:s.hi=hi0):A0j N w0 own σ0 lo0 hi0 {s with lo:=lo0} a w:=by
 simp only[A0p,Bool.and_eq_true,List.all_eq_true,Nat.blt_eq]at hok
 obtain ⟨hct,hch⟩:=hok
 have hblk:∀b c,s.u (.blk b)=some c→C0w lo0 hi0 b:=fun b c hb=>by
  have hm:=H0c (H:=s.heap) hb
  have :=(hch _ hm).1
  unfold C0w
  omega
 have hcl:∀l c,s.u l=some c→M1h lo0 hi0 c:=fun l c hl=>by
  cases l with
  | tmp t =>
   simp only[St.u,stU,Option.map_eq_some_iff]at hl
   obtain ⟨x,hx,rfl⟩:=hl
   intro b hb
   have :=hct x (List.mem_of_getElem? hx) b hb
   unfold C0w
   omega
  | blk b =>
   have hm:=H0c (H:=s.heap) hl
   have :=(hch _ hm).2
   cases c with
   | av x=>intro d hd;have :=this d hd;unfold C0w;omega
   | row e cs=>intro d hd;have :=this d hd;unfold C0w;omega
   | obj o=>trivial
 obtain ⟨σ,u,hf,hs,hn,hl,ho,hlo,hi⟩:=h
 have hw:Fits N w0 own σ s.u a w:=hf.sub hs
 refine ⟨cutσ σ lo0 hi0,s.u,?_,Sub.refl _,fun b hb1 hb2=>?_,fun b r hb=>?_,fun b hb1 hb2=>?_,Nat.le_refl _,hi⟩
 ·refine {hw with tmp:=fun t v hv=>?_,row:=fun b e cs hb=>?_,obj:=fun b o hb=>?_,inj:=fun b b' r h1 h2=>hw.inj b b' r (A0x h1) (A0x h2),bound:=fun b r hb=>hw.bound b r (A0x hb),ownsR:=fun b e cs r hb hr=>hw.ownsR b e cs r hb (A0x hr),ownsO:=fun b o r hb hr=>hw.ownsO b o r hb (A0x hr)}
  ·obtain ⟨x,h3,h4⟩:=hw.tmp t v hv
   exact ⟨x,h3,Rel.cut v x (hcl _ _ hv) h4⟩
  ·obtain ⟨r,vs,h3,h4,h5⟩:=hw.row b e cs hb
   exact ⟨r,vs,by rw[B0k (hblk b _ hb)];exact h3,h4,Rels.cut cs vs (hcl _ _ hb) h5⟩
  ·obtain ⟨r,o',h3,h4,h5⟩:=hw.obj b o hb
   exact ⟨r,o',by rw[B0k (hblk b _ hb)];exact h3,h4,h5⟩
 ·have hb2:b<hi0:=by rw[← hhi];exact hb2
  unfold cutσ
  rw[if_pos ⟨hb1,hb2⟩]
 ·have hc:C0w lo0 hi0 b:=fun hc=>by rw[hnone b hc.1 hc.2]at hb;cases hb
  rw[B0k hc]
  exact hl b r hb
 ·have :=ho b hb1 hb2
  unfold cutσ
  split
  ·rfl
  ·exact this
variable {ops:Array Oper} {Q:Exit→Act→World→Prop}
theorem N2t{k d:Nat}{op:Op}(hs:B0a ops k=some (op,some d,true))(hd:d<N)(hlen:s.tmps.length=N)(hh:A0j N w0 own σ0 lo0 hi0 s a w){v:Value}(hrun:∀o:Oper,o.op=op→(execOp a.eval o).run P w=.ok (.value v) w)(rest:List Nat)
  (hK:∀a',A0j N w0 own σ0 lo0 hi0 {s with tmps:=s.tmps.set d (.val v)} a' w→wpOps P ops Q rest a' w):wpOps P ops Q (k :: rest) a w:=by
 obtain ⟨o,ho,hop,hdst,hg⟩:=D0n hs
 rw[wpOps_cons]
 unfold wpOp
 rw[ho]
 simp only
 rw[if_pos (by simp[Region.wanted,hg])]
 refine .inl ?_
 unfold Oper.wp
 rw[hrun o hop,Oper.upon_value,hdst]
 exact hK _ (hh.put hd hlen v)
theorem K0q{k d:Nat}{t elem:TypeId}{x ix:Operand}{ti:TypeInfo}(hs:B0a ops k=some (.indexAddr t x ix,some d,true))(hd:d<N)(hlen:s.tmps.length=N)(hu:P.underlying t=some (.slice elem))(hi:P.info? elem=some ti)
  (hh:A0j N w0 own σ0 lo0 hi0 s a w) {b:Addr} {len cap i:Nat} {ik:IntKind} (hx:a.eval x=.slice (some b) len cap) (hix:a.eval ix=.int ik i) (hlt:i<len) (rest:List Nat)
  (hK:∀a',A0j N w0 own σ0 lo0 hi0 {s with tmps:=s.tmps.set d (.val (.pointer (some (b.add (i*ti.size)))))} a' w→wpOps P ops Q rest a' w):wpOps P ops Q (k :: rest) a w:=by
 refine N2t hs hd hlen hh (v:=.pointer (some (b.add (i*ti.size)))) (fun o hop=>?_) rest hK
 have hb:0≤(i:Int)∧(i:Int)<(len:Int):=by omega
 simp only[execOp,hop,Instr.indexAt,hix,asIntOf,Sem.run_bind,run_underlying hu,Result.andThen_ok,hx,Sem.run_pure,Sem.run_ite,if_pos hb,B0q hi,Int.toNat_natCast]
theorem N0g{k d:Nat}{t:TypeId}{x:Operand}(hs:B0a ops k=some (.load t x,some d,true))(hd:d<N)(hlen:s.tmps.length=N)(hh:A0j N w0 own σ0 lo0 hi0 s a w){b:Addr}(hx:a.eval x=.pointer (some b)){v:Value}(hv:(loadVar t b).run P w=.ok v w)(rest:List Nat)
  (hK:∀a',A0j N w0 own σ0 lo0 hi0 {s with tmps:=s.tmps.set d (.val v)} a' w→wpOps P ops Q rest a' w):wpOps P ops Q (k :: rest) a w :=
 N2t hs hd hlen hh (fun o hop=>by simp only[execOp,hop,Instr.loadAt,hx,Instr.sureAddr,Sem.run_bind,Sem.run_pure,Result.andThen_ok,hv]) rest hK
theorem P3g{k d:Nat}{op:Op}(hs:B0a ops k=some (op,some d,true))(hd:d<N)(hlen:s.tmps.length=N)(hh:A0j N w0 own σ0 lo0 hi0 s a w){v:Value}{w':World}(hrun:∀o:Oper,o.op=op→(execOp a.eval o).run P w=.ok (.value v) w')
  (h1:w'.os=w.os) (h2:w'.tape=w.tape) (h3:w'.output=w.output) (hg:w.heap.size≤w'.heap.size) (hsame:∀j,j<w.heap.size→w'.heap[j]?=w.heap[j]?) (rest:List Nat)
  (hK:∀a' (own1:Nat→Prop) (σ1:Nat→Option Nat),(∀r,own1 r→r<w.heap.size)→(∀b,s.lo≤b→b<s.hi→σ1 b=none)→A0j N w' own1 σ1 s.lo s.hi {s with tmps:=s.tmps.set d (.val v)} a' w'→(∀s' a' w2,A0j N w' own1 σ1 s.lo s.hi s' a' w2→A0j N w0 own σ0 lo0 hi0 s' a' w2)→wpOps P ops Q rest a' w'):wpOps P ops Q (k :: rest) a w:=by
 obtain ⟨o,ho,hop,hdst,hgd⟩:=D0n hs
 rw[wpOps_cons]
 unfold wpOp
 rw[ho]
 simp only
 rw[if_pos (by simp[Region.wanted,hgd])]
 refine .inl ?_
 unfold Oper.wp
 rw[hrun o hop,Oper.upon_value,hdst]
 obtain ⟨own1,σ1,k1,⟨k2,kn⟩,k3⟩:=hh.elsewhere h1 h2 h3 hg hsame
 exact hK _ own1 σ1 k1 kn (k2.put hd hlen v) k3
theorem P0r {k d f : Nat} {c : Call} {fn : Func} (hs : B0a ops k = some (.call c, some d, true)) (hd : d < N) (hlen : s.tmps.length = N) (hh : A0j N w0 own σ0 lo0 hi0 s a w) (hcal : c.callee = .value (.func f)) (hfn : P.funcs[f]? = some fn) (hb : (fn.body.isSome && !fn.name == "runtime.NumGoroutine") = true)
  {args:Array Value} (hargs:c.args.map a.eval=args) {X:Value→World→Prop} (hc:Calls P f args w fun e w'=>∃v,e=.returned v∧RowKit.Below w.heap.size w w'∧X v w') (rest:List Nat)
  (hK:∀v a' w' (own1:Nat→Prop) (σ1:Nat→Option Nat),X v w'→RowKit.Below w.heap.size w w'→(∀r,own1 r→r<w.heap.size)→(∀b,s.lo≤b→b<s.hi→σ1 b=none)→A0j N w' own1 σ1 s.lo s.hi {s with tmps:=s.tmps.set d (.val v)} a' w'→(∀s' a' w2,A0j N w' own1 σ1 s.lo s.hi s' a' w2→A0j N w0 own σ0 lo0 hi0 s' a' w2)→wpOps P ops Q rest a' w'):wpOps P ops Q (k :: rest) a w:=by
 obtain ⟨o,ho,hop,hdst,hgd⟩:=D0n hs
 rw[wpOps_cons]
 unfold wpOp
 rw[ho]
 simp only
 rw[if_pos (by simp[Region.wanted,hgd])]
 refine .inl ?_
 unfold Oper.wp
 have hexec:(execOp a.eval o).run P w=.ok (.enter f args) w:=by
  have e:a.eval (.func f)=.func (.func f) #[] #[]:=rfl
  simp only[execOp,hop,resolve,hcal,e,Deferred.ofValue,Sem.run_bind,Sem.run_pure,Result.andThen_ok,invoke,Q0j hfn hb,hargs,Array.empty_append,Array.append_empty]
 rw[hexec]
 simp only[Oper.upon]
 refine Calls.mono hc fun e w' he=>?_
 obtain ⟨v,rfl,g1,g2⟩:=he
 simp only
 rw[hdst]
 obtain ⟨own1,σ1,k1,⟨k2,kn⟩,k3⟩:=hh.elsewhere g1.os g1.tape g1.output g1.size fun j hj=>g1.block j hj
 exact hK v _ w' own1 σ1 g2 g1 k1 kn (k2.put hd hlen v) k3
theorem D0z{call:R0c (Bool×St)}{qf:FuncId→Bool}(hcall:D0t P call){l:List Oper}{k:Nat}{s1:St}(keep G:List Nat)(h:B0j P call qf N ops l s [] (C0p keep G)=some (true,s1))
  (hl:∀j o,l[j]?=some o→ops[k+j]?=some o) (hh:A0j N w0 own σ0 lo0 hi0 s a w) (rest:List Nat) (hK:∀a' w',A0j N w0 own σ0 lo0 hi0 s1 a' w'→wpOps P ops Q rest a' w'):wpOps P ops Q ((List.range l.length).map (k+·)++rest) a w:=by
 obtain ⟨items,s',h1,h2,h3,h4,h5,h6,_,_⟩:=J0j hcall l k s [] h hl
 obtain ⟨σ,u,hf,hs,hn,hle0,hout0,hlo0,hhi0⟩:=hh
 obtain ⟨u',hc,hs'⟩:=h2 u hs
 have hb:=h5.bounds
 simp only[C0p,K0p,Option.some.injEq,Prod.mk.injEq]at h1
 obtain ⟨hrm,rfl⟩:=h1
 have hrm:=Nat.le_of_ble_eq_true hrm
 have hwk:=C0e keep G s'
 have hix:items.map (·.i)=(List.range l.length).map (k+·):=by
  apply List.ext_getElem
  ·simp[h3]
  ·intro j hj1 hj2
   simp only[List.getElem_map,List.getElem_range]
   exact h4 j _ (List.getElem?_eq_getElem (by simpa using hj1))
 rw[← hix]
 have hfresh:R1k items σ:=by
  intro it hit b hb1 hb2
  have :=hb.2 it hit
  exact hn b (by omega) (by omega)
 refine W0e items rest u u' σ a w hc hf hfresh h5.apart fun σ' a' w' hle hout hf'=>?_
 refine hK a' w' ⟨σ',_,(hf'.sub hs').weak hwk,Sub.refl _,fun b hb1 hb2=>?_,hle0.trans hle,fun b hb1 hb2=>hout b (hout0 b hb1 hb2) fun it hit=>?_,?_,?_⟩
 ·have hb1:s'.lo≤b:=hb1
  have hb2:b<s'.hi:=hb2
  refine hout b (hn b (by omega) (by omega)) fun it hit=>?_
  have :=hb.2 it hit
  omega
 ·have :=hb.2 it hit
  omega
 ·show lo0≤s'.lo
  omega
 ·show s'.hi≤hi0
  omega
end
end Go.Ab
namespace Go.Ab
open Go Go.Proofs
instance:Cod Crf where
 enc c:=.agg (List.toArray (CodL.encl c))
 dec v:=match v with
  | .agg a=>Z0v Crf a.toList
  | _=>none
 law v a h:=by
  split at h
  ·rename_i x
   rw[← M0j h]
  ·cases h
structure U0j where
 rt:Int×Unit→Bool
 hp:CX→ByteArray×Unit→Bool
 he:CX→ByteArray×Unit→CX
 bp:StA→Bool
 bd:Bool→StA→Dr×Bool
 lk:CX→CX
 fi:CX→CX
 pl:CX→CX
 dp:Bool→Dr×Unit→V3×Bool
 ct:V4×V3×Unit→Two V4 V3
 wr:Tl×Unit→Two Fr Bool
 wp:Fr×Unit→Two ByteArray Bool
def H3c(F:U0j):Gam:=[(87,S0 F.rt),(88,SM F.hp fun x a=>(C2d,F.he x a)),(89,Sc 57 F.bp F.bd),(90,ySM F.lk),(91,ySM F.fi),(92,ySM F.pl),(175,S 57 F.dp),(176,S0 F.ct),(177,S0 F.wr),(178,S0 F.wp)]
def cstE(F:U0j):Env:={gam:=H3c F}
def P4v(s:Stp)(c:Crf)(k:Two V4 V3):Tl:=⟨s.tk,c.plan.mode,c.plan.faults,c.ack,c.err,c.rej,k.a,k.b⟩
def teB(F:U0j)(x:CX)(m:V3):ByteArray:=(F.wp ((F.wr (P4v x.1 x.2.1 (F.ct (x.2.1.guess.q,m,())),())).a,())).a
noncomputable def cstR:Nat→Code
 | 0=>Tryz.f25.body.getD .skip
 | k+1=>seqR (cstR k)
noncomputable def cstL(k:Nat):Code:=seqL (cstR k)
def crf0:Crf:=⟨false,0,⟨#[]⟩,⟨0,0,0,0,0,0⟩,false,⟨0,0,0,0,0,0,0⟩,⟨false,0,⟨0,0,0⟩,⟨0,0,0⟩⟩,⟨⟨0,0,0,0⟩,⟨0,0,0⟩,⟨⟨0,0,0,0,0,0⟩,⟨0,0,0,0,0,0⟩,⟨0,0,0,0,0,0⟩,⟨0,0,0,0,0,0⟩,⟨0,0,0,0,0,0⟩,⟨0,0,0,0,0,0⟩⟩⟩,0,0,0⟩
def csA:Nat:=4096
def csB:Nat:=4096+1*2^180
def csM:Nat:=4096+2*2^180
def csS:Nat:=4096+3*2^180
def csE:Nat:=4096+4*2^180
def R3k(a m:Nat)(s:Stp):List AV:=.ptr a 0 :: .val (.int .i64 s.tk) :: .val (.int .i64 s.gap) :: .map m :: ((CodL.encl s.sky++(CodL.encl s.body++CodL.encl s.seen)).map AV.val)
def cstI(c:Crf)(tk:Int)(b:ByteArray):St:=gSt 106 [(1,.val (.int .i64 tk)),(2,.val (.string b)),(3,.ptr csA 0),(6,.ptr csB 0),(7,.val (.string ⟨#[]⟩))] [(csA,.row 44 (C0x c)),(csB,.row 44 (C0x crf0))] csM
def U2p(c:Crf)(tk:Int)(b:ByteArray):St:=gSt 106 [(1,.val (.int .i64 tk)),(2,.val (.string b)),(3,.ptr csA 0),(6,.ptr csB 0),(7,.val (.string ⟨#[]⟩))] [(csA,.row 44 (C0x c)),(csB,.row 44 (C0x c))] csM
def cstZ(c:Crf)(b:ByteArray)(lo:Nat):St:=gSt 106 [(6,.ptr csB 0),(7,.val (.string b))] [(csB,.row 44 (C0x c))] lo
def stp0(tk:Int):Stp:=⟨tk,0,⟨⟨0,0,0⟩,⟨0,0,0⟩⟩,⟨⟨0,0,0⟩,⟨0,0,0⟩⟩,⟨false,false,false,false,false,false,false,0⟩⟩
def cstM(c:Crf)(s:Stp)(o:Obj)(tk:Int)(b:ByteArray):St:=gSt 106 [(1,.val (.int .i64 tk)),(2,.val (.string b)),(3,.ptr csA 0),(6,.ptr csB 0),(7,.val (.string ⟨#[]⟩)),(8,.ptr csS 0)] [(csA,.row 44 (C0x c)),(csB,.row 44 (C0x crf0)),(csS,.row 145 (R3k csA csM s)),(csM,.obj o)] csE
def rdg0:Rdg:=⟨0,0,⟨0,0,0⟩⟩
def rds0:Rds:=⟨false,rdg0,false,rdg0,false,rdg0⟩
def cstX(x:CX)(tk:Int)(b:ByteArray):St:=cstM x.2.1 x.1 (H1a x.2.2) tk b
def cstY(x:CX)(tk:Int):St:=gSt 106 [(1,.val (.int .i64 tk)),(3,.ptr csA 0),(6,.ptr csB 0),(7,.val (.string ⟨#[]⟩)),(8,.ptr csS 0)] [(csA,.row 44 (C0x x.2.1)),(csB,.row 44 (C0x crf0)),(csS,.row 145 (R3k csA csM x.1)),(csM,.obj (H1a x.2.2))] csE
def gapD(tk ct:Int):Int:=IntKind.u64.wrap (IntKind.u64.wrap tk-IntKind.u64.wrap ct)
section
variable (F:U0j) (c:Crf) (tk:Int) (b:ByteArray) (x:CX) (o:Obj)
theorem B3p:gRun Tryz.prog (cstE F) 106 (cstL 0) (B0t 106 [.val (Cod.enc c),.val (.int .i64 tk),.val (.string b)] []) [csA,csB] [1,2,3,6,7]=some (.normal,cstI c tk b):=by kernel_rfl
theorem B3q:gRun Tryz.prog (cstE F) 106 (cstL 1) (cstI c tk b) [csA,csB] [1,2,3,6,7]=bif !F.rt (tk,()) then some (.ret,U2p c tk b) else bif c.on then bif decide (tk≤c.tk) then some (.ret,U2p c tk b) else some (.normal,cstI c tk b) else some (.normal,cstI c tk b):=by kernel_rfl
theorem X3b:gRun Tryz.prog (cstE F) 106 (cstL 2) (cstI c tk b) [csA,csB,csS,csM] [1,2,3,6,7,8]=some (.normal,cstM c (stp0 tk) (.map #[] 0) tk b):=by kernel_rfl
theorem X3c:gRun Tryz.prog (cstE F) 106 (cstL 3) (cstX x tk b) [csA,csB,csS,csM] [1,2,3,6,7,8]=bif x.2.1.on then bif decide (gapD tk x.2.1.tk≥10) then bif decide (gapD tk x.2.1.tk≤10000) then some (.normal,cstX ({x.1 with gap:=IntKind.i64.wrap (gapD tk x.2.1.tk)},x.2.1,x.2.2) tk b) else some (.normal,cstX x tk b) else some (.normal,cstX x tk b) else some (.normal,cstX x tk b):=by kernel_rfl
theorem X3d:gRun Tryz.prog (cstE F) 106 (cstL 4) (cstX x tk b) [csA,csB,csS,csM] [1,2,3,6,7,8]=some (.normal,cstX ({x.1 with seen:={x.1.seen with gap:=x.1.gap==0}},x.2.1,x.2.2) tk b):=by kernel_rfl
theorem X3e:gRun Tryz.prog (cstE F) 106 (cstL 5) (cstX x tk b) [csA,csB,csS,csM] [1,3,6,7,8]=bif F.hp x (b,()) then some (.normal,cstY (F.he x (b,())) tk) else none:=by kernel_rfl
theorem X3g:gCut Tryz.prog (cstE F) 106 (cstL 6) (cstY x tk) csE [csA,csB,csS,csM] [1,3,6,7,8]=bif x.2.2.p3 then bif F.bp (x.2.1.drift,x.2.2.r3.v,x.2.2.r3.tk,()) then some (.normal,cstY (x.1,{x.2.1 with drift:=(F.bd false (x.2.1.drift,x.2.2.r3.v,x.2.2.r3.tk,())).1},x.2.2) tk) else none else some (.normal,cstY x tk):=by kernel_rfl
theorem X3h:gRun Tryz.prog (cstE F) 106 (cstL 7) (cstY x tk) [csA,csB,csS,csM] [1,3,6,7,8]=some (.normal,cstY (F.lk x) tk):=by kernel_rfl
theorem X3j:gRun Tryz.prog (cstE F) 106 (cstL 8) (cstY x tk) [csA,csB,csS,csM] [1,3,6,7,8]=bif x.2.1.plan.mode==2 then bif !x.1.seen.gap then some (.normal,cstY (F.fi x) tk) else some (.normal,cstY x tk) else some (.normal,cstY x tk):=by kernel_rfl
theorem X3k:gRun Tryz.prog (cstE F) 106 (cstL 9) (cstY x tk) [csA,csB,csS,csM] [1,3,6,7,8]=some (.normal,cstY (F.pl x) tk):=by kernel_rfl
theorem E3u:gRun Tryz.prog (cstE F) 106 (cstL 10) (cstY x tk) [csA,csB,csS,csM] [1,3,6,7,8]=some (.normal,cstY (x.1,{x.2.1 with on:=true,tk:=tk},x.2.2) tk):=by kernel_rfl
theorem E3v:gCut Tryz.prog (cstE F) 106 (cstR 11) (cstY x tk) csE [csB] [6,7]=bif x.2.1.plan.mode==0 then some (.ret,cstZ x.2.1 (teB F x (F.dp false (x.2.1.drift,())).1) csE) else some (.ret,cstZ x.2.1 (teB F x V3.zero) csE):=by kernel_rfl
theorem W3v:A0p csE (cstY x tk)=true:=by kernel_rfl
end
theorem C3b:Tryz.prog.funcs[25]?=some Tryz.f25:=by kernel_rfl
theorem B3n:Tryz.f25.body=some (.seq (cstL 0) (.seq (cstL 1) (.seq (cstL 2) (.seq (cstL 3) (.seq (cstL 4) (.seq (cstL 5) (.seq (cstL 6) (.seq (cstL 7) (.seq (cstL 8) (.seq (cstL 9) (.seq (cstL 10) (cstR 11))))))))))) ):=by kernel_rfl
theorem W3u:Tryz.f25.ntmps=106:=by kernel_rfl
theorem U2t(c:Crf)(b:ByteArray):resA Tryz.prog (cstZ c b csE) Tryz.f25.results.toList=some [.val (Cod.enc c),.val (.string b)]:=by kernel_rfl
theorem U2r(c:Crf)(tk:Int)(b:ByteArray):resA Tryz.prog (U2p c tk b) Tryz.f25.results.toList=some [.val (Cod.enc c),.val (.string ⟨#[]⟩)]:=by kernel_rfl
def gapV(c:Crf)(tk:Int):Int:=bif c.on then bif decide (gapD tk c.tk≥10) then bif decide (gapD tk c.tk≤10000) then IntKind.i64.wrap (gapD tk c.tk) else 0 else 0 else 0
def stp1(c:Crf)(tk:Int):Stp:={stp0 tk with gap:=gapV c tk,seen:={(stp0 tk).seen with gap:=gapV c tk==0}}
def P0g(c:Crf)(rt:Int×Unit→Bool)(tk:Int):Bool:=bif !rt (tk,()) then true else bif c.on then decide (tk≤c.tk) else false
def cstH(F:U0j)(c:Crf)(tk:Int)(b:ByteArray):CX:=F.he (stp1 c tk,c,rds0) (b,())
def cstD(F:U0j)(x:CX):CX:=bif x.2.2.p3 then (x.1,{x.2.1 with drift:=(F.bd false (x.2.1.drift,x.2.2.r3.v,x.2.2.r3.tk,())).1},x.2.2) else x
def cstF(F:U0j)(x:CX):CX:=bif x.2.1.plan.mode==2 then bif !x.1.seen.gap then F.fi x else x else x
def cstT(F:U0j)(x:CX):ByteArray:=bif x.2.1.plan.mode==0 then teB F x (F.dp false (x.2.1.drift,())).1 else teB F x V3.zero
def onX(tk:Int)(x:CX):CX:=(x.1,{x.2.1 with on:=true,tk:=tk},x.2.2)
def endX(F:U0j)(tk:Int)(x:CX):CX:=onX tk (F.pl (cstF F (F.lk (cstD F x))))
abbrev StpA:=Crf×Int×ByteArray×Unit
def X0q(F:U0j)(p:StpA):Two Crf ByteArray:=bif P0g p.1 F.rt p.2.1 then ⟨p.1,⟨#[]⟩⟩ else ⟨(endX F p.2.1 (cstH F p.1 p.2.1 p.2.2.1)).2.1,cstT F (endX F p.2.1 (cstH F p.1 p.2.1 p.2.2.1))⟩
def driftOk(F:U0j)(x:CX):Bool:=bif x.2.2.p3 then F.bp (x.2.1.drift,x.2.2.r3.v,x.2.2.r3.tk,()) else true
def J0z(F:U0j)(p:StpA):Bool:=bif P0g p.1 F.rt p.2.1 then true else F.hp (stp1 p.1 p.2.1,p.1,rds0) (p.2.2.1,())&&driftOk F (cstH F p.1 p.2.1 p.2.2.1)
section
variable {F:U0j} (hG:GamOk Tryz.prog (H3c F)) (c:Crf) (tk:Int) (b:ByteArray)
include hG
theorem W3w:A0b Tryz.prog 106 (cstL 2) (cstI c tk b) .normal (cstX (stp0 tk,c,rds0) tk b):=by
 have h:=A0a (E:=cstE F) hG (X3b F c tk b)
 intro w0 own σ0 lo0 hi0 a w hst Q hQ
 refine h w0 own σ0 lo0 hi0 a w hst Q fun a' w' h'=>hQ a' w' ?_
 refine h'.retell csM (ob:=.map #[] 0) (ob1:=H1a rds0) (by kernel_rfl) (fun o ho=>?_) rfl (fun b c hb=>?_) rfl rfl
 ·have ho:o=.map #[] 0:=ho
  subst ho
  exact ⟨#[],0,rfl,List.Perm.nil⟩
 ·exact A1h (r:=[(csA,.row 44 (C0x _)),(csB,.row 44 (C0x crf0)),(csS,.row 145 (R3k csA csM (stp0 tk)))]) hb
theorem W3x:A0b Tryz.prog 106 (cstL 3) (cstX (stp0 tk,c,rds0) tk b) .normal (cstX ({stp0 tk with gap:=gapV c tk},c,rds0) tk b):=by
 have e:=X3c F tk b (stp0 tk,c,rds0)
 dsimp only at e
 have e2:gRun Tryz.prog (cstE F) 106 (cstL 3) (cstX (stp0 tk,c,rds0) tk b) [csA,csB,csS,csM] [1,2,3,6,7,8]=some (.normal,cstX ({stp0 tk with gap:=gapV c tk},c,rds0) tk b):=by
  rw[e]
  unfold gapV
  cases c.on
  ·rfl
  ·cases decide (gapD tk c.tk≥10)
   ·rfl
   ·cases decide (gapD tk c.tk≤10000)<;>rfl
 exact A0a (E:=cstE F) hG e2
theorem W3z(x:CX)(hd:driftOk F x=true):A0b Tryz.prog 106 (cstL 6) (cstY x tk) .normal (cstY (cstD F x) tk):=by
 have e:=X3g F tk x
 unfold driftOk at hd
 unfold cstD
 cases hp:x.2.2.p3 with
 | true =>
  rw[hp]at e hd
  simp only[cond_true]at e hd
  rw[hd,cond_true]at e
  exact A0c (E:=cstE F) hG e rfl (W3v ..) rfl
 | false =>
  rw[hp]at e
  exact A0c (E:=cstE F) hG e rfl (W3v ..) rfl
theorem X3a(x:CX):A0b Tryz.prog 106 (cstL 8) (cstY x tk) .normal (cstY (cstF F x) tk):=by
 have e:=X3j F tk x
 unfold cstF
 refine A0a (E:=cstE F) hG (e.trans ?_)
 cases x.2.1.plan.mode==2
 ·rfl
 ·cases x.1.seen.gap<;>rfl
theorem E3t(x:CX):A0b Tryz.prog 106 (cstR 11) (cstY x tk) .ret (cstZ x.2.1 (cstT F x) csE):=by
 have e:=E3v F tk x
 have e2:gCut Tryz.prog (cstE F) 106 (cstR 11) (cstY x tk) csE [csB] [6,7]=some (.ret,cstZ x.2.1 (cstT F x) csE):=by
  rw[e]
  unfold cstT
  cases x.2.1.plan.mode==0<;>rfl
 exact A0c (E:=cstE F) hG e2 rfl (by kernel_rfl) rfl
theorem U2q(h:P0g c F.rt tk=true):A0b Tryz.prog 106 (cstL 1) (cstI c tk b) .ret (U2p c tk b):=by
 have e:=B3q F c tk b
 refine A0a (E:=cstE F) hG (e.trans ?_)
 unfold P0g at h
 revert h
 cases F.rt (tk,())<;>cases c.on<;>cases decide (tk≤c.tk)<;>intro h<;>first | rfl | cases h
theorem U2u(h:P0g c F.rt tk=false):A0b Tryz.prog 106 (cstL 1) (cstI c tk b) .normal (cstI c tk b):=by
 have e:=B3q F c tk b
 refine A0a (E:=cstE F) hG (e.trans ?_)
 unfold P0g at h
 revert h
 cases F.rt (tk,())<;>cases c.on<;>cases decide (tk≤c.tk)<;>intro h<;>first | rfl | cases h
theorem W3y(x:CX)(h:F.hp x (b,())=true):A0b Tryz.prog 106 (cstL 5) (cstX x tk b) .normal (cstY (F.he x (b,())) tk):=by
 have e:=X3e F tk b x
 rw[h,cond_true]at e
 exact A0a (E:=cstE F) hG e
theorem E3r(hl:P0g c F.rt tk=false)(hp:F.hp (stp1 c tk,c,rds0) (b,())=true)(hd:driftOk F (cstH F c tk b)=true) :
  A0b Tryz.prog 106 (.seq (cstL 0) (.seq (cstL 1) (.seq (cstL 2) (.seq (cstL 3) (.seq (cstL 4) (.seq (cstL 5) (.seq (cstL 6) (.seq (cstL 7) (.seq (cstL 8) (.seq (cstL 9) (.seq (cstL 10) (cstR 11)))))))))))) (B0t 106 [.val (Cod.enc c),.val (.int .i64 tk),.val (.string b)] []) .ret
   (cstZ (endX F tk (cstH F c tk b)).2.1 (cstT F (endX F tk (cstH F c tk b))) csE):=by
 refine .seq (A0a (E:=cstE F) hG (B3p F c tk b)) (.seq (U2u hG c tk b hl) (.seq (W3w hG c tk b) (.seq (W3x hG c tk b) (.seq (A0a (E:=cstE F) hG (X3d F tk b _)) (.seq (W3y hG tk b (stp1 c tk,c,rds0) hp) (.seq (W3z hG tk _ hd) ?_))))))
 exact .seq (A0a (E:=cstE F) hG (X3h F tk _)) (.seq (X3a hG tk _) (.seq (A0a (E:=cstE F) hG (X3k F tk _)) (.seq (A0a (E:=cstE F) hG (E3u F tk _)) (E3t hG tk _))))
theorem L4n:A0h Tryz.prog 25 (S0w (J0z F) (X0q F)):=by
 intro args cs r cs' hs
 obtain ⟨⟨c,tk,b,_⟩,hp,rfl,rfl,rfl,rfl⟩:=Z0n hs
 unfold J0z at hp
 dsimp only at hp
 cases hl:P0g c F.rt tk with
 | true =>
  have e:X0q F (c,tk,b,())=⟨c,⟨#[]⟩⟩:=by unfold X0q;dsimp only;rw[hl];rfl
  rw[e]
  exact E0k C3b B3n W3u (by show 3≤106;omega) (by simp) rfl rfl rfl (.inr rfl) (.seq (A0a (E:=cstE F) hG (B3p F c tk b)) (A0b.seqR (U2q hG c tk b hl))) (U2r ..) rfl rfl (fun _ _ h=>by simp at h) rfl rfl
 | false =>
  rw[hl,cond_false,Bool.and_eq_true]at hp
  have e:X0q F (c,tk,b,())=⟨(endX F tk (cstH F c tk b)).2.1,cstT F (endX F tk (cstH F c tk b))⟩:=by unfold X0q;dsimp only;rw[hl];rfl
  rw[e]
  exact E0k C3b B3n W3u (by show 3≤106;omega) (by simp) rfl rfl rfl (.inr rfl) (E3r hG c tk b hl hp.1 hp.2) (U2t ..) rfl rfl (fun _ _ h=>by simp at h) rfl rfl
end
structure N8 where
 n:Nat
instance:Cod N8 where
 enc x:=.int .u8 x.n
 dec v:=match v with | .int .u8 (.ofNat n)=>some ⟨n⟩ | _=>none
 law v a h:=by split at h<;>simp_all;subst h;rfl
def idxV(p:ByteArray×N8×Unit):Int:=Lib.indexByte p.1.data.toList p.2.1.n.toUInt8
noncomputable def iC:Code:=Tryz.f241.body.getD .skip
noncomputable def iR0:Code:=seqL iC
noncomputable def iO:Array Oper:=regO (seqL (seqR iC))
theorem D5t:Tryz.f241.body=some (.seq iR0 (.seq (.region 1 iO false) .ret)):=by kernel_rfl
def iS(s:ByteArray)(c:Int):St:=mkSt 8 [0,1] [.string s,.int .u8 c] [] [] [] 4096 frH frT
def iT(s:ByteArray)(c:Int):St:=mkSt 8 [5,6] [.string s,.int .u8 c] [] [] [] 4096 frH frT
def iE(r:Int):St:=mkSt 8 [4] [.int .i64 r] [] [] [] 4096 frH frT
theorem ir0(s:ByteArray)(c:Int):C0t [] 8 iR0 ⟨[Value.string s,.int .u8 c].map .val++List.replicate (8-[Value.string s,.int .u8 c].length) (.val undef),[],4096,frH,frT,[]⟩ [] [0,1]=some (.normal,iS s c):=by kernel_rfl
theorem V3h:Tryz.prog.funcs[252]?=some Tryz.f252:=by kernel_rfl
theorem A5y : (Tryz.f252.name == "runtime.NumGoroutine") = false := by kernel_rfl
theorem A5w:Tryz.f252.body.isNone=true:=by kernel_rfl
theorem A5z:Extern.findNext Tryz.f252=none:=by kernel_rfl
theorem A5x:Extern.find Tryz.f252=some Extern.BytealgIndexByte.indexByte:=by kernel_rfl
def cIdx:Call:={callee:=.value (.func 252),args:=#[.tmp 5,.tmp 6],argTypes:=#[9,5]}
theorem ig2:B0a iO 2=some (.call cIdx,some 7,true):=by kernel_rfl
theorem ign:List.range iO.size=(List.range (iO.toList.take 2).length).map (0+·)++(2 :: ((List.range (iO.toList.drop 3).length).map (3+·)++[])):=by kernel_rfl
theorem ir1(s:ByteArray)(c:Int):U0u 8 iO (iO.toList.take 2) (iS s c) [] [5,6]=some (true,iT s c):=by kernel_rfl
theorem ir2(s:ByteArray)(c r:Int):U0u 8 iO (iO.toList.drop 3) {iT s c with tmps:=(iT s c).tmps.set 7 (.val (.int .i64 r))} [] [4]=some (true,iE r):=by kernel_rfl
theorem io1(s:ByteArray)(c:Int):A0g (iS s c)=true:=by kernel_rfl
theorem io2(s:ByteArray)(c:Int):A0g (iT s c)=true:=by kernel_rfl
theorem io3(r:Int):A0g (iE r)=true:=by kernel_rfl
theorem il2(s:ByteArray)(c:Int):(iT s c).tmps.length=8:=by kernel_rfl
theorem ires(r:Int):resA Tryz.prog (iE r) Tryz.f241.results.toList=some [.val (.int .i64 r)]:=by kernel_rfl
theorem V3g:Tryz.prog.funcs[241]?=some Tryz.f241:=by kernel_rfl
theorem H2p(s:ByteArray)(c:Nat)(w:World):Calls Tryz.prog 241 #[.string s,.int .u8 c] w fun e w'=>∃v,e=.returned v∧RowKit.Below w.heap.size w w'∧v=.int .i64 (Lib.indexByte s.data.toList c.toUInt8):=by
 refine calls_of_wp V3g D5t ?_
 have hst:=A0t.start (N:=8) [.string s,.int .u8 c] w 4096 frH frT (by simp)
 refine wp_seq ((A0e B0n _ _ (ir0 s c)).stand (io1 ..) hst fun a1 w1 h1=>?_)
 refine wp_seq (wp_region ?_)
 rw[ign]
 refine D0p (B0n _) (qf:=B0p ([]:Gam)) [] _ (ir1 s c) (fun _ _ hj=>L0b hj) (io2 ..) h1 _ fun a2 w2 h2=>?_
 refine X0e ig2 (by omega) (il2 ..) h2 (v:=.int .i64 (Lib.indexByte s.data.toList c.toUInt8)) (fun o ho=>?_) _ fun a3 h3=>?_
 ·have hx:a2.eval (.tmp 5)=.string s:=h2.eval (t:=5) rfl
  have hy:a2.eval (.tmp 6)=.int .u8 c:=h2.eval (t:=6) rfl
  have e:a2.eval (.func 252)=.func (.func 252) #[] #[]:=rfl
  have hargs:cIdx.args.map a2.eval=#[.string s,.int .u8 c]:=by simp[cIdx,hx,hy]
  have hcal:cIdx.callee=.value (.func 252):=rfl
  have hrun:=run_callFunc_extern (P:=Tryz.prog) V3h A5y A5w A5z A5x #[.string s,.int .u8 (c:Int)] w2
  rw[Lib.run_indexByteString]at hrun
  simp only[execOp,ho,resolve,hcal,e,Deferred.ofValue,Sem.run_bind,Sem.run_pure,Result.andThen_ok,invoke,hargs,Array.empty_append,Array.append_empty,hrun,Int.toNat_natCast]
 refine D0p (B0n _) (qf:=B0p ([]:Gam)) [] _ (ir2 s c _) (fun _ _ hj=>D0k hj) (io3 ..) h3 [] fun a4 w4 h4=>?_
 obtain ⟨y1,y2,y3⟩:=h4.results (P:=Tryz.prog) (fn:=Tryz.f241) (ires _)
 exact wp_ret (bodyPost_ret y1 y2 ⟨_,rfl,y3.below,rfl⟩)
theorem N3g:A0h Tryz.prog 241 (S0w (fun _=>true) idxV):=X0x fun a w _=>H2p a.1 a.2.1.n w
theorem D5u(pre:ByteArray×N8×Unit→Bool)(g:ByteArray×N8×Unit→Int)(s:ByteArray)(c:N8):fnSum Tryz.prog {gam:=[(241,S0w pre g)]} [] 20 207 [.val (.string s),.val (.int .u8 c.n)] []=bif pre (s,c,()) then some (.val (.int .i64 (g (s,c,()))),[]) else none:=by kernel_rfl
theorem J5r:A0h Tryz.prog 207 (S0w (fun _=>true) idxV):=by
 have hG:GamOk Tryz.prog [(241,S0w (fun _=>true) idxV)]:=.cons N3g .nil
 refine X0x fun a w _=>?_
 obtain ⟨s,c,_⟩:=a
 exact Calls.mono (calls_of_sum (E:={gam:=[(241,S0w (fun _=>true) idxV)]}) hG (d:=20) (f:=207) (vals:=[.string s,.int .u8 c.n]) (v:=Cod.enc (idxV (s,c,()))) ((D5u _ _ s c).trans rfl) w) fun e w' h=>⟨_,h.1,h.2,rfl⟩
end Go.Ab
namespace Go.Ab
open Go
def C0v(Ex:It→Prop):List It→U→U→Prop
 | [],u,u'=>u'=u
 | it :: r,u,u'=>(∀x∈it.rd,u x.1=some x.2)∧Ex it∧C0v Ex r (upd u it.wr) u'
def ExR(P:Program)(ops:Array Oper)(R:U→Act→World→Prop)(Q:Exit→Act→World→Prop)(it:It):Prop :=
 ∀(u:U) (a:Act) (w:World),R u a w→(∀x∈it.rd,u x.1=some x.2)→∀K:Act→World→Prop,(∀a' w',R (upd u it.wr) a' w'→K a' w')→wpOp P ops Q it.i K a w
section
variable {Ex:It→Prop}
theorem C0v.over{wr:Wr}:∀{items:List It} {u u':U},C0v Ex items u u'→(∀it∈items,(∀p∈wr,∀q∈it.rd,q.1≠p.1)∧(∀p∈wr,∀q∈it.wr,q.1≠p.1)) →
  C0v Ex items (upd u wr) (upd u' wr)
 | [],u,u',h,_=>by simp only[C0v]at h ⊢;rw[h]
 | it :: r,u,u',h,hd=>by
  obtain ⟨h1,h2,h3⟩:=h
  have hd0:=hd it (List.mem_cons_self ..)
  refine ⟨fun x hx=>?_,h2,?_⟩
  ·rw[K0b _ _ _ fun p hp e=>hd0.1 p hp x hx e.symm]
   exact h1 x hx
  ·rw[Z1h u wr it.wr fun p hp q hq e=>hd0.2 p hp q hq e.symm]
   exact C0v.over h3 fun x hx=>hd x (List.mem_cons_of_mem _ hx)
theorem C0v.append:∀{a b:List It} {u v w:U},C0v Ex a u v→C0v Ex b v w→C0v Ex (a++b) u w
 | [],_,_,_,_,h,k=>by simp only[C0v]at h;subst h;exact k
 | _ :: _,_,_,_,_,h,k=>⟨h.1,h.2.1,C0v.append h.2.2 k⟩
theorem C0v.split:∀{a b:List It} {u w:U},C0v Ex (a++b) u w→∃v,C0v Ex a u v∧C0v Ex b v w
 | [],_,u,_,h=>⟨u,rfl,h⟩
 | _ :: _,_,_,_,h=>by
  obtain ⟨v,h1,h2⟩:=C0v.split h.2.2
  exact ⟨v,⟨h.1,h.2.1,h1⟩,h2⟩
theorem C0v.stays:∀{items:List It} {u u':U} {l:Loc},C0v Ex items u u'→(∀it∈items,∀p∈it.wr,p.1≠l)→u' l=u l
 | [],u,u',l,h,_=>by simp only[C0v]at h;rw[h]
 | it :: r,u,u',l,h,hd=>by
  rw[C0v.stays h.2.2 fun x hx=>hd x (List.mem_cons_of_mem _ hx),K0b _ _ _ (hd it (List.mem_cons_self ..))]
theorem C0v.first{pre post:List It}{it:It}{u u':U}(h:C0v Ex (pre++it :: post) u u')(hi:∀p∈pre,C2q p it):C0v Ex (it :: (pre++post)) u u':=by
 obtain ⟨v,h1,h2,h3,h4⟩:=C0v.split h
 refine ⟨fun x hx=>?_,h3,?_⟩
 ·rw[← C0v.stays h1 fun p hp q hq=>(hi p hp).1 q hq x hx]
  exact h2 x hx
 ·refine C0v.append (C0v.over h1 fun p hp=>⟨fun q hq r hr=>(hi p hp).2.2 r hr q hq,fun q hq r hr=>(hi p hp).2.1 r hr q hq⟩) h4
end
section
variable {P:Program} {ops:Array Oper} {R:U→Act→World→Prop} {Q:Exit→Act→World→Prop}
theorem E1h:∀(n:Nat) (items:List It) (listed:Array Bool) (u u':U) (a:Act) (w:World),items.length=n→C0v (ExR P ops R Q) items u u'→R u a w →
  listed.size=ops.size→(∀j,j<ops.size→(listed.getD j true=false↔∃it∈items,it.i=j))→(∀it∈items,it.i<ops.size)→(items.map (·.i)).Nodup →
  X0v ops listed→(∀(pre post:List It) (it:It) (ls:Array Bool),X0v ops ls→(pre++it :: post).Sublist items →
   it.i∈Region.ready .any ops ls→(∀p∈pre,ls.getD p.i true=false)→∀p∈pre,C2q p it) →
  (∀(ls:Array Bool) (l:List It),ls.size=ops.size→l.Sublist items→l≠[]→(∀j,j<ops.size→(ls.getD j true=false↔∃it∈l,it.i=j))→Region.ready .any ops ls≠[]) →
  (∀a' w',R u' a' w'→Q .normal a' w')→wpAny P .any ops Q n listed a w
 | 0,items,listed,u,u',a,w,hl,hc,hf,hls,hli,_,_,_,_,_,hQ=>by
  have:items=[]:=List.eq_nil_of_length_eq_zero hl
  subst this
  simp only[C0v]at hc
  subst hc
  refine ⟨?_,hQ a w hf⟩
  cases hr:Region.ready .any ops listed with
  | nil=>rfl
  | cons x xs =>
   have hx:x∈Region.ready .any ops listed:=by rw[hr];simp
   obtain ⟨h1,o,h2,_⟩:=mem_ready.1 hx
   have hlt:x<ops.size:=(Array.getElem?_eq_some_iff.1 h2).1
   obtain ⟨it,h3,_⟩:=(hli x hlt).1 h1
   cases h3
 | n+1,items,listed,u,u',a,w,hl,hc,hf,hls,hli,hlt,hnd,hcl,hind,hne,hQ=>by
  refine ⟨fun h0=>absurd h0 (hne listed items hls (List.Sublist.refl _) (by intro e;subst e;cases hl) hli),fun j hj=>?_⟩
  obtain ⟨h1,o,h2,_⟩:=mem_ready.1 hj
  have hjlt:j<ops.size:=(Array.getElem?_eq_some_iff.1 h2).1
  obtain ⟨it,hit,rfl⟩:=(hli j hjlt).1 h1
  obtain ⟨pre,post,rfl⟩:=List.append_of_mem hit
  have hpre:∀p∈pre,listed.getD p.i true=false:=fun p hpp=>(hli p.i (hlt p (by simp[hpp]))).2 ⟨p,by simp[hpp],rfl⟩
  have hc':=C0v.first hc (hind pre post it listed hcl (List.Sublist.refl _) hj hpre)
  obtain ⟨c1,c2,c3⟩:=hc'
  have hsub:(pre++post).Sublist (pre++it :: post):=List.Sublist.append (List.Sublist.refl _) (List.sublist_cons_self ..)
  have hsubm:∀p∈pre++post,p∈pre++it :: post:=fun p hpp=>hsub.subset hpp
  have hnotin:∀p∈pre++post,p.i≠it.i:=by
   intro p hpp e
   simp only[List.map_append,List.map_cons]at hnd
   rw[List.nodup_append]at hnd
   rcases List.mem_append.1 hpp with h | h
   ·exact hnd.2.2 p.i (List.mem_map.2 ⟨p,h,rfl⟩) it.i (by simp) e
   ·exact (List.nodup_cons.1 hnd.2.1).1 (e ▸ List.mem_map.2 ⟨p,h,rfl⟩)
  have hset:∀k,k<ops.size→((listed.setIfInBounds it.i true).getD k true=false↔∃x∈pre++post,x.i=k):=by
   intro k hk
   by_cases e:k=it.i
   ·subst e
    have:(listed.setIfInBounds it.i true).getD it.i true=true:=by simp[hls,hjlt]
    rw[this]
    constructor
    ·intro h;cases h
    ·rintro ⟨x,hx,e⟩;exact absurd e (hnotin x hx)
   ·rw[getD_set_ne true (Ne.symm e),hli k hk]
    constructor
    ·rintro ⟨x,hx,rfl⟩
     refine ⟨x,?_,rfl⟩
     simp only[List.mem_append,List.mem_cons]at hx ⊢
     rcases hx with h | rfl | h
     ·exact .inl h
     ·exact absurd rfl e
     ·exact .inr h
    ·rintro ⟨x,hx,rfl⟩;exact ⟨x,hsubm x hx,rfl⟩
  refine c2 u a w hf c1 _ fun a' w' hf'=>?_
  refine E1h n (pre++post) (listed.setIfInBounds it.i true) _ u' a' w' ?_ c3 hf' (by simpa using hls) hset (fun x hx=>hlt x (hsubm x hx))
   (hnd.sublist (hsub.map _)) (hcl.set hj) (fun pre' post' it' ls h0 h4=>hind pre' post' it' ls h0 (h4.trans hsub))
   (fun ls l h0 h1=>hne ls l h0 (h1.trans hsub)) hQ
  simp only[List.length_append,List.length_cons]at hl ⊢;omega
theorem D1k{items:List It}(hlen:items.length=ops.size)(hix:∀(k:Nat) (it:It),items[k]?=some it→it.i=k)(hok:H1r ops.toList (items.map It.foot)=true){u u':U}{a:Act}{w:World}
  (hc:C0v (ExR P ops R Q) items u u') (hf:R u a w)
  (hQ:∀a' w',R u' a' w'→Q .normal a' w'):wpAny P .any ops Q ops.size (Array.replicate ops.size false) a w:=by
 simp only[H1r,Bool.and_eq_true]at hok
 obtain ⟨hed,hchk⟩:=hok
 have hB:C2j ops.toList (befs ops.toList []):=by
  have :=T1a ops.toList [] [] ⟨rfl,fun j o m h=>by simp at h⟩
  simpa using this
 have hspec:=(H1y _ _ 0 [] hchk).2
 have hinc:items.Pairwise fun a b=>a.i<b.i:=by
  rw[List.pairwise_iff_getElem]
  intro p q hp1 hq1 hpq
  rw[hix p _ (List.getElem?_eq_getElem hp1),hix q _ (List.getElem?_eq_getElem hq1)]
  exact hpq
 have hmem:∀it∈items,items[it.i]?=some it∧it.i<ops.size:=by
  intro it hit
  obtain ⟨k,hk,e⟩:=List.getElem_of_mem hit
  have h1:items[k]?=some it:=by rw[List.getElem?_eq_getElem hk,e]
  have :=hix k it h1
  rw[this]
  exact ⟨h1,by omega⟩
 refine E1h ops.size items (Array.replicate ops.size false) u u' a w hlen hc hf (by simp) (fun j hj=>?_) (fun it hit=>(hmem it hit).2) ?_ ?_ ?_ ?_ hQ
 ·have h1:(Array.replicate ops.size false).getD j true=false:=by simp[hj]
  refine ⟨fun _=>⟨items[j],List.getElem_mem _,hix j _ (List.getElem?_eq_getElem (by omega))⟩,fun _=>h1⟩
 ·rw[List.Nodup,List.pairwise_map]
  exact hinc.imp fun h=>Nat.ne_of_lt h
 ·intro j o _ h
  by_cases hj:j<ops.size
  ·simp[hj]at h
  ·simp[hj]at h
 ·intro pre post it ls hcl hsub hready hpre p hpp
  have hit:it∈items:=hsub.subset (by simp)
  have hpit:p∈items:=hsub.subset (by simp[hpp])
  have hlt:p.i<it.i:=by
   have :=hinc.sublist hsub
   rw[List.pairwise_append]at this
   exact this.2.2 p hpp it (by simp)
  obtain ⟨h1,o,h2,h3⟩:=mem_ready.1 hready
  obtain ⟨hi1,hi2⟩:=hmem it hit
  obtain ⟨hp1,hp2⟩:=hmem p hpit
  have hm:it.i<(befs ops.toList []).length:=by rw[hB.1];simpa using hi2
  rcases hspec p.i it.i p.foot it.foot (befs ops.toList [])[it.i] hlt (by simp[hp1]) (by simp[hi1]) (List.getElem?_eq_getElem hm) with h | h
  ·exfalso
   rw[Nat.zero_add]at h
   obtain ⟨e,h4,h5⟩:=hB.2 it.i o _ (by simpa using h2) (List.getElem?_eq_getElem hm) p.i h
   obtain ⟨ed,h6,h7,h8⟩:=E0h.1 h4
   have hl:=h3 ed h6 h7
   rw[h8]at hl
   have hpl:ls.getD p.i false=true:=by
    rcases h5 with h5 | ⟨m',h9,h10⟩
    ·rw[h5];exact hl
    ·exact E1z hcl hed hB (e+1) e (by omega) hl m' p.i h9 h10
   have hpf:=hpre p hpp
   rcases Nat.lt_or_ge p.i ls.size with hx | hx
   ·simp[hx]at hpl hpf;rw[hpl]at hpf;cases hpf
   ·simp[Array.getElem?_eq_none hx]at hpl
  ·exact A1n h
 ·intro ls l hsz hsub hne hiff hnil
  cases l with
  | nil=>exact hne rfl
  | cons it r =>
   have hit:it∈items:=hsub.subset (by simp)
   obtain ⟨hi1,hi2⟩:=hmem it hit
   have hinc':=hinc.sublist hsub
   rw[List.pairwise_cons]at hinc'
   have:it.i∈Region.ready .any ops ls:=by
    refine mem_ready.2 ⟨(hiff it.i hi2).2 ⟨it,by simp,rfl⟩,ops[it.i],Array.getElem?_eq_getElem hi2,fun e he hb=>?_⟩
    have hlt:=J0c _ 0 hed it.i ops[it.i] (by simp[Array.getElem?_eq_getElem hi2]) e.on (E0h.2 ⟨e,he,hb,rfl⟩)
    rw[Nat.zero_add]at hlt
    have hlt2:e.on<ls.size:=by omega
    cases hv:ls.getD e.on true with
    | false =>
     obtain ⟨x,hx,hxe⟩:=(hiff e.on (by omega)).1 hv
     simp only[List.mem_cons]at hx
     rcases hx with rfl | hx
     ·omega
     ·have :=hinc'.1 x hx;omega
    | true=>simp[hlt2]at hv ⊢;exact hv
   rw[hnil]at this
   cases this
end
end Go.Ab
