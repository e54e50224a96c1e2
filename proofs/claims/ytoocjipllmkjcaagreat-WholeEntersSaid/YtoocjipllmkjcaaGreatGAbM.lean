/- A part of the proofs: lemmas, no statement of their own; no condition. -/
import Derived.Test.YtoocjipllmkjcaaGreatGAbK
import Derived.ProofKit
import Derived.OpenShut
import Derived.ShutString
namespace Go.Ab
variable {β:Type}
mutual
def renO(ρ:Nat→Option Nat):AV→Option AV
 | .val v=>some (.val v)
 | .ptr b off=>match ρ b with | some b'=>some (.ptr b' off) | none=>none
 | .slice b off len cap=>match ρ b with | some b'=>some (.slice b' off len cap) | none=>none
 | .agg cs=>match renL ρ cs with | some l=>some (.agg l) | none=>none
 | .tuple cs=>match renL ρ cs with | some l=>some (.tuple l) | none=>none
 | .func f a b=>match renL ρ a,renL ρ b with | some x,some y=>some (.func f x y) | _,_=>none
 | .map b=>match ρ b with | some b'=>some (.map b') | none=>none
 | .any=>some .any
def renL(ρ:Nat→Option Nat):List AV→Option (List AV)
 | []=>some []
 | a :: as=>match renO ρ a,renL ρ as with | some x,some y=>some (x :: y) | _,_=>none
end
def Ties(ρ σ σ':Nat→Option Nat):Prop:=∀b b',ρ b=some b'→∀r,σ b=some r→σ' b'=some r
mutual
theorem V0p{ρ σ σ':Nat→Option Nat}(h:Ties ρ σ σ'):∀(a a':AV) (v:Value),renO ρ a=some a'→Rel σ a v→Rel σ' a' v
 | .val _,_,_,e,k=>by simp only[renO,Option.some.injEq]at e;subst e;simpa only[Rel]using k
 | .ptr b off,_,_,e,k=>by
  simp only[renO]at e
  split at e
  ·rename_i b' hb;cases e;simp only[Rel]at k ⊢;obtain ⟨r,h1,h2⟩:=k;exact ⟨r,h b b' hb r h1,h2⟩
  ·cases e
 | .slice b off len cap,_,_,e,k=>by
  simp only[renO]at e
  split at e
  ·rename_i b' hb;cases e;simp only[Rel]at k ⊢;obtain ⟨r,h1,h2⟩:=k;exact ⟨r,h b b' hb r h1,h2⟩
  ·cases e
 | .agg cs,_,_,e,k=>by
  simp only[renO]at e
  split at e
  ·rename_i l hl;cases e;simp only[Rel]at k ⊢;obtain ⟨vs,h1,h2⟩:=k;exact ⟨vs,h1,J0a h cs l vs hl h2⟩
  ·cases e
 | .tuple cs,_,_,e,k=>by
  simp only[renO]at e
  split at e
  ·rename_i l hl;cases e;simp only[Rel]at k ⊢;obtain ⟨vs,h1,h2⟩:=k;exact ⟨vs,h1,J0a h cs l vs hl h2⟩
  ·cases e
 | .func f a b,_,_,e,k=>by
  simp only[renO]at e
  split at e
  ·rename_i x y hx hy;cases e;simp only[Rel]at k ⊢;obtain ⟨xs,ys,h1,h2,h3⟩:=k;exact ⟨xs,ys,h1,J0a h a x xs hx h2,J0a h b y ys hy h3⟩
  ·cases e
 | .map b,_,_,e,k=>by
  simp only[renO]at e
  split at e
  ·rename_i b' hb;cases e;simp only[Rel]at k ⊢;obtain ⟨r,h1,h2⟩:=k;exact ⟨r,h b b' hb r h1,h2⟩
  ·cases e
 | .any,_,_,e,_=>by simp only[renO,Option.some.injEq]at e;subst e;simp only[Rel]
theorem J0a{ρ σ σ':Nat→Option Nat}(h:Ties ρ σ σ'):∀(a a':List AV) (v:List Value),renL ρ a=some a'→Rels σ a v→Rels σ' a' v
 | [],_,_,e,k=>by simp only[renL,Option.some.injEq]at e;subst e;simpa only[Rels]using k
 | a :: as,_,_,e,k=>by
  simp only[renL]at e
  split at e
  ·rename_i x y hx hy
   cases e
   simp only[Rels]at k ⊢
   obtain ⟨v,vs,h1,h2,h3⟩:=k
   exact ⟨v,vs,h1,V0p h a x v hx h2,J0a h as y vs hy h3⟩
  ·cases e
end
def renC(ρ:Nat→Option Nat):Con→Option Con
 | .row e cs=>match renL ρ cs with | some l=>some (.row e l) | none=>none
 | .obj o=>some (.obj o)
 | .av _=>none
def J0x(ρ:Nat→Option Nat):List Con→Option (List Con)
 | []=>some []
 | c :: cs=>match renC ρ c,J0x ρ cs with | some x,some y=>some (x :: y) | _,_=>none
theorem G0p{ρ:Nat→Option Nat}:∀{cs cs':List Con} {i:Nat} {c':Con},J0x ρ cs=some cs'→cs'[i]?=some c'→∃c,cs[i]?=some c∧renC ρ c=some c'
 | [],_,i,c',h,k=>by simp only[J0x,Option.some.injEq]at h;subst h;simp at k
 | c :: cs,_,i,c',h,k=>by
  simp only[J0x]at h
  split at h
  ·rename_i x y hx hy
   cases h
   cases i with
   | zero=>simp at k;subst k;exact ⟨c,rfl,hx⟩
   | succ i=>simp at k ⊢;exact G0p hy k
  ·cases h
theorem Q0e{ρ:Nat→Option Nat}:∀{cs cs':List Con},J0x ρ cs=some cs'→cs'.length=cs.length
 | [],_,h=>by simp only[J0x,Option.some.injEq]at h;subst h;rfl
 | c :: cs,_,h=>by
  simp only[J0x]at h
  split at h
  ·rename_i x y hx hy;cases h;simp[Q0e hy]
  ·cases h
theorem C0g{ρ σ σ':Nat→Option Nat}(h:Ties ρ σ σ'){c c':Con}{w:World}{b b' r:Nat}(hr:renC ρ c=some c')(hb:σ b=some r)(hb':σ' b'=some r)(k:R1j σ w b c):R1j σ' w b' c':=by
 cases c with
 | row e cs =>
  simp only[renC]at hr
  split at hr
  ·rename_i l hl
   cases hr
   obtain ⟨r1,vs,h1,h2,h3⟩:=k
   rw[hb]at h1;cases h1
   exact ⟨r,vs,hb',h2,J0a h cs l vs hl h3⟩
  ·cases hr
 | obj o =>
  simp only[renC,Option.some.injEq]at hr;subst hr
  obtain ⟨r1,o',h1,h2⟩:=k
  rw[hb]at h1;cases h1
  exact ⟨r,o',hb',h2⟩
 | av a=>simp[renC]at hr
def numH:Nat→List Con→Hp
 | _,[]=>[]
 | k,c :: r=>(k,c) :: numH (k+1) r
theorem A0w:∀(cs:List Con) (k b:Nat),hget (numH k cs) b=if k≤b then cs[b-k]? else none
 | [],k,b=>by simp[numH,hget]
 | c :: cs,k,b=>by
  simp only[numH,hget]
  by_cases e:k=b
  ·subst e;simp
  ·have h2:Nat.beq k b=false:=by
    cases hb:Nat.beq k b with
    | false=>rfl
    | true=>exact absurd (Nat.eq_of_beq_eq_true hb) e
   rw[h2,A0w cs (k+1) b]
   by_cases h:k≤b
   ·rw[if_pos h,if_pos (by omega)]
    have:b-k=(b-(k+1))+1:=by omega
    rw[this,List.getElem?_cons_succ]
   ·rw[if_neg h,if_neg (by omega)]
inductive STr where
 | ret (r:AV) (cs:List Con)
 | no
 | test (b:Bool) (t e:STr)
def STr.sel:STr→Option (AV×List Con)
 | .ret r cs=>some (r,cs)
 | .no=>none
 | .test b t e=>cond b t.sel e.sel
abbrev D0c:=List AV→List Con→STr
def A0h(P:Program)(f:FuncId)(S:D0c):Prop :=
 ∀args cs r cs',(S args cs).sel=some (r,cs')→cs.length≤cs'.length∧CallFacts P f args (numH 0 cs) cs.length cs'.length r (numH 0 cs')
theorem V0w{P:Program}{f:FuncId}{args:List AV}{cs cs':List Con}{r:AV}(h:cs'.length=cs.length∧CallFacts P f args (numH 0 cs) 0 0 r (numH 0 cs')) :
  cs.length≤cs'.length∧CallFacts P f args (numH 0 cs) cs.length cs'.length r (numH 0 cs'):=by
 refine ⟨by omega,fun σ vals w h1 h2 h3 h4 _=>Calls.mono (h.2 σ vals w h1 h2 h3 h4 (fun b h5 h6=>by omega)) fun e w' he=>?_⟩
 obtain ⟨σ',v,k1,k2,k3,k4⟩:=he
 exact ⟨σ',v,k1,k2,fun b h5 _=>k3 b h5 (by omega),k4⟩
def B1y:Nat→List Nat→Nat→Option Nat
 | _,[],_=>none
 | k,x :: r,b=>match Nat.beq x b with | true=>some k | false=>B1y (k+1) r b
theorem X0j:∀(L:List Nat) (k b i:Nat),B1y k L b=some i→k≤i∧L[i-k]?=some b
 | [],k,b,i,h=>by simp[B1y]at h
 | x :: r,k,b,i,h=>by
  simp only[B1y]at h
  split at h
  ·rename_i e;cases h;simp[Nat.eq_of_beq_eq_true e]
  ·obtain ⟨h1,h2⟩:=X0j r (k+1) b i h
   refine ⟨by omega,?_⟩
   have:i-k=(i-(k+1))+1:=by omega
   rw[this,List.getElem?_cons_succ];exact h2
def Y1h:List Nat→Bool
 | []=>true
 | x :: r=>!hasN r x&&Y1h r
theorem N1v:∀(l:List Nat) (b:Nat),b∈l→hasN l b=true
 | [],b,h=>by cases h
 | x :: r,b,h=>by
  simp only[hasN]
  split
  ·rfl
  ·rename_i e
   rcases List.mem_cons.1 h with rfl | h
   ·simp at e
   ·exact N1v r b h
theorem B1d:∀{l:List Nat},Y1h l=true→l.Nodup
 | [],_=>List.nodup_nil
 | x :: r,h=>by
  simp only[Y1h,Bool.and_eq_true,Bool.not_eq_true']at h
  refine List.nodup_cons.2 ⟨fun hm=>?_,B1d h.2⟩
  rw[N1v r x hm]at h
  cases h.1
def M1w(H:Hp):List Nat→Option (List Con)
 | []=>some []
 | b :: r=>match hget H b,M1w H r with | some c,some l=>some (c :: l) | _,_=>none
theorem P0u{H:Hp}:∀{L:List Nat} {cs:List Con} {i b:Nat},M1w H L=some cs→L[i]?=some b→∃c,cs[i]?=some c∧hget H b=some c
 | [],cs,i,b,_,k=>by simp at k
 | x :: L,cs,i,b,h,k=>by
  simp only[M1w]at h
  split at h
  ·rename_i c l hc hl
   cases h
   cases i with
   | zero=>simp at k;subst k;exact ⟨c,rfl,hc⟩
   | succ i=>simp at k ⊢;exact P0u hl k
  ·cases h
theorem L0j{H:Hp}:∀{L:List Nat} {cs:List Con},M1w H L=some cs→cs.length=L.length
 | [],cs,h=>by simp only[M1w,Option.some.injEq]at h;subst h;rfl
 | x :: L,cs,h=>by
  simp only[M1w]at h
  split at h
  ·rename_i c l hc hl;cases h;simp[L0j hl]
  ·cases h
def zipH:List Nat→List Con→Hp
 | b :: L,c :: cs=>(b,c) :: zipH L cs
 | _,_=>[]
theorem A1j:∀{L:List Nat} {cs:List Con} {b:Nat} {c:Con},hget (zipH L cs) b=some c→∃i:Nat,L[i]?=some b∧cs[i]?=some c
 | [],cs,b,c,h=>by simp[zipH,hget]at h
 | x :: L,[],b,c,h=>by simp[zipH,hget]at h
 | x :: L,y :: cs,b,c,h=>by
  simp only[zipH,hget]at h
  split at h
  ·rename_i e;cases h;exact ⟨0,by simp[Nat.eq_of_beq_eq_true e],rfl⟩
  ·obtain ⟨i,h1,h2⟩:=A1j h;exact ⟨i+1,by simpa using h1,by simpa using h2⟩
def STr.fold(K:AV→List Con→Option β):STr→Option β
 | .ret r cs=>K r cs
 | .no=>none
 | .test b t e=>cond b (t.fold K) (e.fold K)
theorem STr.fold_sel(K:AV→List Con→Option β):∀t:STr,t.fold K=match t.sel with | some (r,cs)=>K r cs | none=>none
 | .ret r cs=>rfl
 | .no=>rfl
 | .test b t e=>by
  simp only[STr.fold,STr.sel]
  cases b
  ·exact STr.fold_sel K e
  ·exact STr.fold_sel K t
def newN:Nat→Nat→List Nat
 | _,0=>[]
 | k,n+1=>k :: newN (k+1) n
theorem Y1e:∀(n k i b:Nat),(newN k n)[i]?=some b→b=k+i∧i<n
 | 0,k,i,b,h=>by simp[newN]at h
 | n+1,k,i,b,h=>by
  simp only[newN]at h
  cases i with
  | zero=>simp at h;subst h;simp
  | succ i=>simp at h;have :=Y1e n (k+1) i b h;omega
theorem U1h:∀(n k:Nat),(newN k n).length=n
 | 0,_=>rfl
 | n+1,k=>by simp[newN,U1h n]
def R2p(S:D0c)(args:List AV)(H:Hp)(lo hi:Nat)(K:AV→Hp→(Nat→Bool)→Option β):Option β :=
 let L:=(H.map (·.1)).reverse
 match Y1h L,renL (B1y 0 L) args,M1w H L with
 | true,some args',some cs=>match J0x (B1y 0 L) cs with
  | some cs'=>(S args' cs').fold fun r cs2=>match cs2.length-L.length with
   | 0=>(match renO (fun i=>L[i]?) r,J0x (fun i=>L[i]?) cs2 with
    | some r',some cs3=>K r' (zipH L cs3) fun _=>true
    | _,_=>none)
   | n+1=>(match Nat.ble (lo+(n+1)) hi,renO (fun i=>(L++newN lo (n+1))[i]?) r,J0x (fun i=>(L++newN lo (n+1))[i]?) cs2 with
    | true,some r',some cs3=>K r' (zipH (L++newN lo (n+1)) cs3) fun _=>true
    | _,_,_=>none)
  | none=>none
 | _,_,_=>none
theorem R2q{P:Program}{f:FuncId}{S:D0c}(hS:A0h P f S){args:List AV}{H:Hp}{lo hi:Nat}{K:AV→Hp→(Nat→Bool)→Option β}{res:β}(h:R2p S args H lo hi K=some res) :
  ∃r H' T,K r H' T=some res∧CallFacts P f args H lo hi r H'∧∀p∈H',T p.1=false→hget H p.1=some p.2:=by
 unfold R2p at h
 simp only at h
 split at h
 ·rename_i args' cs hnd hargs hcs
  have hnd:=B1d hnd
  split at h
  ·rename_i cs' hcs'
   rw[STr.fold_sel]at h
   split at h
   ·rename_i r cs2 hSr
    obtain ⟨hlen,hfacts⟩:=hS _ _ _ _ hSr
    have hcl:cs.length=((H.map (·.1)).reverse).length:=L0j hcs
    have hcl':cs'.length=((H.map (·.1)).reverse).length:=by rw[Q0e hcs',hcl]
    have key:∃(n:Nat) (r':AV) (cs3:List Con),(n=0∨lo+n≤hi)∧n=cs2.length-((H.map (·.1)).reverse).length∧renO (fun i=>((H.map (·.1)).reverse++newN lo n)[i]?) r=some r'∧J0x (fun i=>((H.map (·.1)).reverse++newN lo n)[i]?) cs2=some cs3 ∧
      K r' (zipH ((H.map (·.1)).reverse++newN lo n) cs3) (fun _=>true)=some res:=by
     split at h
     ·rename_i hn
      split at h
      ·rename_i r' cs3 hr' hcs3
       exact ⟨0,r',cs3,.inl rfl,hn.symm,by simpa[newN]using hr',by simpa[newN]using hcs3,by simpa[newN]using h⟩
      ·cases h
     ·rename_i n hn
      split at h
      ·rename_i r' cs3 hb hr' hcs3
       exact ⟨n+1,r',cs3,.inr (Nat.le_of_ble_eq_true hb),hn.symm,hr',hcs3,h⟩
      ·cases h
    obtain ⟨n,r',cs3,hroom,hn,hr',hcs3,hK⟩:=key
    refine ⟨r',_,_,hK,fun σ vals w hinj hbd hvals hH hnone=>?_,fun _ _ h=>by cases h⟩
    let L:=(H.map (·.1)).reverse
    have hL:L=(H.map (·.1)).reverse:=rfl
    rw[← hL]at hnd hargs hcs hcs' hcl hcl' hn hr' hcs3
    rw[← hL]
    let σc:Nat→Option Nat:=fun i=>(L[i]?).bind σ
    have hσc:∀i r,σc i=some r→∃b,L[i]?=some b∧σ b=some r:=by
     intro i r hi
     simp only[σc]at hi
     cases hL:L[i]? with
     | none=>simp[hL]at hi
     | some b=>rw[hL]at hi;exact ⟨b,rfl,by simpa using hi⟩
    have t1:Ties (B1y 0 L) σ σc:=by
     intro b i hp r hr
     have :=(X0j L 0 b i hp).2
     simp only[Nat.sub_zero]at this
     simp[σc,this,hr]
    have hinjc:∀b b' r,σc b=some r→σc b'=some r→b=b':=by
     intro i j r h1 h2
     obtain ⟨b,h3,h4⟩:=hσc i r h1
     obtain ⟨b',h5,h6⟩:=hσc j r h2
     have :=hinj _ _ _ h4 h6
     subst this
     obtain ⟨hi1,hi2⟩:=List.getElem?_eq_some_iff.1 h3
     obtain ⟨hj1,hj2⟩:=List.getElem?_eq_some_iff.1 h5
     exact (List.getElem_inj hnd).1 (hi2.trans hj2.symm)
    have hHc:Y0u σc (numH 0 cs') w:=by
     intro i c' hi
     rw[A0w,if_pos (Nat.zero_le _),Nat.sub_zero]at hi
     obtain ⟨c,h1,h2⟩:=G0p hcs' hi
     have hlt:i<L.length:=by
      rw[← hcl]
      exact (List.getElem?_eq_some_iff.1 h1).1
     obtain ⟨c2,h3,h4⟩:=P0u hcs (List.getElem?_eq_getElem hlt)
     rw[h1]at h3
     cases h3
     have hfit:=hH _ _ h4
     cases c with
     | av a=>simp[renC]at h2
     | row e cc =>
      obtain ⟨r0,vs,h5,h6⟩:=hfit
      exact C0g t1 h2 h5 (by simp[σc,hlt];exact h5) ⟨r0,vs,h5,h6⟩
     | obj o =>
      obtain ⟨r0,o',h5,h6⟩:=hfit
      exact C0g t1 h2 h5 (by simp[σc,hlt];exact h5) ⟨r0,o',h5,h6⟩
    have hcn:∀i,L.length≤i→σc i=none:=fun i hi=>by simp[σc,List.getElem?_eq_none hi]
    have hidx:∀i b,L.length≤i→(L++newN lo n)[i]?=some b→b=lo+(i-L.length)∧i-L.length<n:=by
     intro i b hi hb
     rw[List.getElem?_append_right hi]at hb
     exact Y1e _ _ _ _ hb
    have hold:∀i b,i<L.length→(L++newN lo n)[i]?=some b→L[i]?=some b:=by
     intro i b hi hb
     rw[List.getElem?_append_left hi]at hb
     exact hb
    -- a name that has a block isn't among the new ones
    have hfar:∀b r,σ b=some r→¬ (lo≤b∧b<lo+n):=by
     intro b r hb hr
     rcases hroom with h0 | h0
     ·omega
     ·rw[hnone b hr.1 (by omega)]at hb;cases hb
    refine Calls.mono (hfacts σc vals w hinjc (fun i r hi=>by obtain ⟨b,_,h4⟩:=hσc i r hi;exact hbd b r h4) (J0a t1 _ _ _ hargs hvals) hHc (fun b h1 h2=>hcn b (by omega))) fun e w' he=>?_
    obtain ⟨σ',v,rfl,p1,p2,p3,p4,p5,p6,p7,p8,p9,p10,p11,p12⟩:=he
    have hσ':∀i,i<L.length→σ' i=σc i:=by
     intro i hi
     cases hi2:σc i with
     | some r=>exact p1 i r hi2
     | none=>exact p2 i hi2 (.inl (by omega))
    let σn:Nat→Option Nat:=fun b=>if lo≤b∧b<lo+n then σ' (L.length+(b-lo)) else σ b
    have hσold:∀b,¬ (lo≤b∧b<lo+n)→σn b=σ b:=fun b hb=>by simp only[σn,if_neg hb]
    have hσnew:∀b,lo≤b→b<lo+n→σn b=σ' (L.length+(b-lo)):=fun b h1 h2=>by simp only[σn,if_pos (And.intro h1 h2)]
    have hgrown:∀i r,L.length≤i→i-L.length<n→σ' i=some r→w.heap.size≤r:=by
     intro i r h1 h2 h3
     have hi2:i<cs2.length:=by omega
     rcases p7 i cs2[i] (by rw[A0w,if_pos (Nat.zero_le _),Nat.sub_zero];exact List.getElem?_eq_getElem hi2) with ⟨c',hc'⟩ | h4
     ·rw[A0w,if_pos (Nat.zero_le _),Nat.sub_zero,List.getElem?_eq_none (by omega)]at hc';cases hc'
     ·exact h4 r h3
    have t2:Ties (fun i=>(L++newN lo n)[i]?) σ' σn:=by
     intro i b hi r hr
     simp only at hi
     by_cases hlt:i<L.length
     ·have hb:=hold i b hlt hi
      rw[hσ' i hlt]at hr
      obtain ⟨b2,h3,h4⟩:=hσc i r hr
      rw[hb]at h3
      cases h3
      rw[hσold b (hfar b r h4)]
      exact h4
     ·obtain ⟨rfl,h4⟩:=hidx i b (by omega) hi
      rw[hσnew _ (by omega) (by omega)]
      rw[show L.length+(lo+(i-L.length)-lo)=i by omega]
      exact hr
    have hcase:∀b r,σn b=some r→σ b=some r∨∃i,L.length≤i∧i-L.length<n∧b=lo+(i-L.length)∧σ' i=some r:=by
     intro b r hb
     by_cases hr:lo≤b∧b<lo+n
     ·rw[hσnew b hr.1 hr.2]at hb
      exact .inr ⟨L.length+(b-lo),by omega,by omega,by omega,hb⟩
     ·rw[hσold b hr]at hb
      exact .inl hb
    refine ⟨σn,v,rfl,fun b r hb=>by rw[hσold b (hfar b r hb)];exact hb,fun b hb hb2=>?_,V0p t2 _ _ _ hr' p3,?_,?_,?_,?_,p8,p9,p10,p11,?_⟩
    ·rw[hσold b (by rcases hroom with h0 | h0<;>omega)]
     exact hb
    ·intro b c hb
     obtain ⟨i,h1,h2⟩:=A1j hb
     obtain ⟨c0,h3,h4⟩:=G0p hcs3 h2
     have hfit:=p4 i c0 (by rw[A0w,if_pos (Nat.zero_le _),Nat.sub_zero];exact h3)
     cases c0 with
     | av a=>simp[renC]at h4
     | row e cc =>
      obtain ⟨r0,vs,h5,h6⟩:=hfit
      exact C0g t2 h4 h5 (t2 i b h1 r0 h5) ⟨r0,vs,h5,h6⟩
     | obj o =>
      obtain ⟨r0,o',h5,h6⟩:=hfit
      exact C0g t2 h4 h5 (t2 i b h1 r0 h5) ⟨r0,o',h5,h6⟩
    ·intro b b' r h1 h2
     rcases hcase b r h1 with h1 | ⟨i,i1,i2,rfl,i4⟩<;>rcases hcase b' r h2 with h2 | ⟨j,j1,j2,rfl,j4⟩
     ·exact hinj _ _ _ h1 h2
     ·have :=hgrown j r j1 j2 j4
      have :=hbd b r h1
      omega
     ·have :=hgrown i r i1 i2 i4
      have :=hbd b' r h2
      omega
     ·have :=p5 i j r i4 j4
      omega
    ·intro b r hb
     rcases hcase b r hb with h1 | ⟨i,i1,i2,rfl,i4⟩
     ·exact Nat.lt_of_lt_of_le (hbd b r h1) p11
     ·exact p6 i r i4
    ·intro b c hb
     obtain ⟨i,h1,h2⟩:=A1j hb
     by_cases hlt:i<L.length
     ·obtain ⟨c2,_,h4⟩:=P0u hcs (hold i b hlt h1)
      exact .inl ⟨c2,h4⟩
     ·obtain ⟨rfl,h4⟩:=hidx i b (by omega) h1
      refine .inr fun r hr=>?_
      rw[hσnew _ (by omega) (by omega),show L.length+(lo+(i-L.length)-lo)=i by omega]at hr
      exact hgrown i r (by omega) h4 hr
    ·intro k hk hno
     refine p12 k hk fun i c hi=>?_
     intro hs
     obtain ⟨b,h3,h4⟩:=hσc i k hs
     obtain ⟨c2,_,h5⟩:=P0u hcs h3
     exact hno b c2 h5 h4
   ·cases h
  ·cases h
 ·cases h
abbrev Gam:=List (FuncId×D0c)
def G2c:Gam→FuncId→Option D0c
 | [],_=>none
 | (g,S) :: r,f=>match Nat.beq g f with | true=>some S | false=>G2c r f
def GamOk(P:Program)(Γ:Gam):Prop:=∀p∈Γ,A0h P p.1 p.2
theorem X1p{P:Program}:∀{Γ:Gam} {f:FuncId} {S:D0c},GamOk P Γ→G2c Γ f=some S→A0h P f S
 | [],f,S,_,h=>by simp[G2c]at h
 | (g,T) :: r,f,S,hG,h=>by
  simp only[G2c]at h
  split at h
  ·rename_i e
   cases h
   rw[← Nat.eq_of_beq_eq_true e]
   exact hG (g,T) (by simp)
  ·exact X1p (fun p hp=>hG p (by simp[hp])) h
structure Env where
 gam:Gam
 F:Nat:=100000
 ways:List (FuncId×List FuncId):=[]
 loud:List FuncId:=[]
def B0p:Gam→FuncId→Bool
 | [],_=>false
 | (g,_) :: r,f=>match Nat.beq g f with | true=>true | false=>B0p r f
def L2d:List (FuncId×List FuncId)→FuncId→Option (List FuncId)
 | [],_=>none
 | (g,w) :: r,f=>match Nat.beq g f with | true=>some w | false=>L2d r f
def Env.way(E:Env)(f:FuncId):Way:={merge:=L2d E.ways f,quiet:=match E.loud with | []=>B0p E.gam | l=>fun f=>B0p E.gam f&&!hasN l f}
def B0v(P:Program)(E:Env):Nat→Y0r
 | 0=>fun _ _ _ _ _ _ _=>none
 | d+1=>fun _ f args H lo hi K=>match G2c E.gam f with
  | some S=>R2p S args H lo hi K
  | none=>G2h P E.F (B0v P E d) (E.way f) [] f args H lo hi K
theorem B0b{P:Program}{E:Env}(hG:GamOk P E.gam):∀(d:Nat) (β:Type),D0t P (B0v P E d β)
 | 0,_=>fun f args H lo hi K res h=>by simp[B0v]at h
 | d+1,β=>fun f args H lo hi K res h=>by
  simp only[B0v]at h
  split at h
  ·rename_i S hS
   exact R2q (X1p hG hS) h
  ·exact V2m (B0b hG d) f args H lo hi K res h
def upTo(n:Nat)(b:Nat):Option Nat:=match Nat.blt b n with | true=>some b | false=>none
def nums:Nat→Nat→List Nat
 | _,0=>[]
 | k,n+1=>k :: nums (k+1) n
theorem V0c:∀(n k i b:Nat),(nums k n)[i]?=some b→b=k+i∧i<n
 | 0,k,i,b,h=>by simp[nums]at h
 | n+1,k,i,b,h=>by
  simp only[nums]at h
  cases i with
  | zero=>simp at h;subst h;simp
  | succ i=>simp at h;have :=V0c n (k+1) i b h;omega
theorem K0u:∀(n k:Nat),(nums k n).length=n
 | 0,_=>rfl
 | n+1,k=>by simp[nums,K0u n]
def fnSum(P:Program)(E:Env)(hB:M0e)(d:Nat)(f:FuncId)(args:List AV)(cs:List Con):Option (AV×List Con) :=
 match renL (upTo cs.length) args,J0x (upTo cs.length) cs with
 | some args0,some cs0=>G2h P E.F (B0v P E d) (E.way f) hB f args0 (numH 0 cs0) 4096 (4096+2^200) fun r H' _ =>
  match renO (upTo cs.length) r,M1w H' (nums 0 cs.length) with
  | some r',some cs1=>match J0x (upTo cs.length) cs1 with
   | some cs2=>some (r',cs2)
   | none=>none
  | _,_=>none
 | _,_=>none
theorem Q0r{n b b':Nat}(h:upTo n b=some b'):b<n∧b'=b:=by
 unfold upTo at h
 split at h
 ·rename_i e;cases h;exact ⟨by simpa[Nat.blt_eq]using e,rfl⟩
 ·cases h
theorem M1d{n b:Nat}(h:b<n):upTo n b=some b:=by
 unfold upTo
 rw[show Nat.blt b n=true from by rw[Nat.blt_eq];exact h]
theorem Y0d{P:Program}{E:Env}(hG:GamOk P E.gam){hB:M0e}{d:Nat}{f:FuncId}(hfit:∀fn c,P.funcs[f]?=some fn→fn.body=some c→HFit P fn.ntmps hB c){args:List AV}{cs cs':List Con}{r:AV}(hn:cs.length≤4096)(h:fnSum P E hB d f args cs=some (r,cs')) :
  cs'.length=cs.length∧CallFacts P f args (numH 0 cs) 0 0 r (numH 0 cs'):=by
 unfold fnSum at h
 split at h
 ·rename_i args0 cs0 hargs hcs0
  obtain ⟨r1,H',_,h1,hf,_⟩:=A1a (B0b hG d) hfit args0 (numH 0 cs0) 4096 (4096+2^200) _ _ h
  split at h1
  ·rename_i r' cs1 hr' hcs1
   split at h1
   ·rename_i cs2 hcs2
    cases h1
    have hl:cs'.length=cs.length:=by rw[Q0e hcs2,L0j hcs1,K0u]
    refine ⟨hl,fun σ vals w hinj hbd hvals hH _=>?_⟩
    let σr:Nat→Option Nat:=fun b=>if b<cs.length then σ b else none
    have hσr:∀b r,σr b=some r→b<cs.length∧σ b=some r:=by
     intro b r hb
     simp only[σr]at hb
     split at hb
     ·rename_i h;exact ⟨h,hb⟩
     ·cases hb
    have t1:Ties (upTo cs.length) σ σr:=by
     intro b b' hb r hr
     obtain ⟨h1,rfl⟩:=Q0r hb
     simp only[σr,if_pos h1];exact hr
    have hHr:Y0u σr (numH 0 cs0) w:=by
     intro b c hb
     rw[A0w,if_pos (Nat.zero_le _),Nat.sub_zero]at hb
     obtain ⟨c0,h1,h2⟩:=G0p hcs0 hb
     have hlt:=(List.getElem?_eq_some_iff.1 h1).1
     have hfit:=hH b c0 (by rw[A0w,if_pos (Nat.zero_le _),Nat.sub_zero];exact h1)
     cases c0 with
     | av a=>simp[renC]at h2
     | row e cc =>
      obtain ⟨r0,vs,h5,h6⟩:=hfit
      exact C0g t1 h2 h5 (by simp only[σr,if_pos hlt];exact h5) ⟨r0,vs,h5,h6⟩
     | obj o =>
      obtain ⟨r0,o',h5,h6⟩:=hfit
      exact C0g t1 h2 h5 (by simp only[σr,if_pos hlt];exact h5) ⟨r0,o',h5,h6⟩
    refine Calls.mono (hf σr vals w (fun b b' r h1 h2=>hinj _ _ _ (hσr _ _ h1).2 (hσr _ _ h2).2) (fun b r h1=>hbd _ _ (hσr _ _ h1).2) (J0a t1 _ _ _ hargs hvals) hHr (fun b h1 h2=>by simp only[σr];rw[if_neg (by omega)])) fun e w' he=>?_
    obtain ⟨σ',v,rfl,p1,p2,p3,p4,p5,p6,p7,p8,p9,p10,p11,p12⟩:=he
    have t2:Ties (upTo cs.length) σ' σ:=by
     intro b b' hb r hr
     obtain ⟨h1,rfl⟩:=Q0r hb
     cases hs:σ b' with
     | some r0 =>
      have :=p1 b' r0 (by simp only[σr,if_pos h1];exact hs)
      rw[hr]at this;cases this;rfl
     | none =>
      have :=p2 b' (by simp only[σr,if_pos h1];exact hs) (.inl (by omega))
      rw[hr]at this;cases this
    refine ⟨σ,v,rfl,Le.refl σ,fun _ h _=>h,V0p t2 _ _ _ hr' p3,?_,hinj,fun b r hb=>Nat.lt_of_lt_of_le (hbd b r hb) p11,?_,p8,p9,p10,p11,?_⟩
    ·intro b c hb
     rw[A0w,if_pos (Nat.zero_le _),Nat.sub_zero]at hb
     obtain ⟨c0,h1,h2⟩:=G0p hcs2 hb
     have hlt:b<(nums 0 cs.length).length:=by
      rw[← L0j hcs1];exact (List.getElem?_eq_some_iff.1 h1).1
     obtain ⟨c2,h3,h4⟩:=P0u hcs1 (List.getElem?_eq_getElem hlt)
     rw[h1]at h3
     cases h3
     have hb2:(nums 0 cs.length)[b]=b:=by
      have :=(V0c _ _ _ _ (List.getElem?_eq_getElem hlt)).1
      omega
     rw[hb2]at h4
     have hlt2:b<cs.length:=by rw[K0u]at hlt;exact hlt
     have hfit:=p4 b c0 h4
     cases c0 with
     | av a=>simp[renC]at h2
     | row e cc =>
      obtain ⟨r0,vs,h5,h6⟩:=hfit
      exact C0g t2 h2 h5 (t2 b b (M1d hlt2) r0 h5) ⟨r0,vs,h5,h6⟩
     | obj o =>
      obtain ⟨r0,o',h5,h6⟩:=hfit
      exact C0g t2 h2 h5 (t2 b b (M1d hlt2) r0 h5) ⟨r0,o',h5,h6⟩
    ·intro b c hb
     rw[A0w,if_pos (Nat.zero_le _),Nat.sub_zero]at hb
     have hlt:b<cs.length:=by rw[← hl];exact (List.getElem?_eq_some_iff.1 hb).1
     exact .inl ⟨cs[b],by rw[A0w,if_pos (Nat.zero_le _),Nat.sub_zero];exact List.getElem?_eq_getElem hlt⟩
    ·intro k hk hno
     refine p12 k hk fun b c hb hs=>?_
     rw[A0w,if_pos (Nat.zero_le _),Nat.sub_zero]at hb
     obtain ⟨h1,h2⟩:=hσr b k hs
     exact hno b cs[b] (by rw[A0w,if_pos (Nat.zero_le _),Nat.sub_zero];exact List.getElem?_eq_getElem h1) h2
   ·cases h1
  ·cases h1
 ·cases h
theorem fnSum_facts{P:Program}{E:Env}(hG:GamOk P E.gam){d:Nat}{f:FuncId}{args:List AV}{cs cs':List Con}{r:AV}(hn:cs.length≤4096)(h:fnSum P E [] d f args cs=some (r,cs')) :
  cs'.length=cs.length∧CallFacts P f args (numH 0 cs) 0 0 r (numH 0 cs') :=
 Y0d hG (fun _ c _ _=>HFit.nil c) hn h
theorem K0a{P:Program}{E:Env}(hG:GamOk P E.gam){f:FuncId}{S:D0c}(h:∀args cs r cs',(S args cs).sel=some (r,cs')→cs.length≤4096∧∃d,fnSum P E [] d f args cs=some (r,cs')):A0h P f S:=by
 intro args cs r cs' hS
 obtain ⟨hn,d,h1⟩:=h args cs r cs' hS
 exact V0w (fnSum_facts hG hn h1)
theorem C1x{P:Program}{E:Env}(hG:GamOk P E.gam){hB:M0e}{f:FuncId}{S:D0c}(hfit:∀fn c,P.funcs[f]?=some fn→fn.body=some c→HFit P fn.ntmps hB c)
  (h:∀args cs r cs',(S args cs).sel=some (r,cs')→cs.length≤4096∧∃d,fnSum P E hB d f args cs=some (r,cs')):A0h P f S:=by
 intro args cs r cs' hS
 obtain ⟨hn,d,h1⟩:=h args cs r cs' hS
 exact V0w (Y0d hG hfit hn h1)
end Go.Ab
namespace Go.Ab
section
variable {H:Type} {enc:TypeId×Value→H} {P:Program} {W:World} {base:Nat} {spare:Nat→Bool} {held:Bool}
end
theorem calls_of_facts{P:Program}{f:FuncId}{vals:List Value}{v:Value}(h:CallFacts P f (vals.map .val) [] 0 0 (.val v) [])(w:World) :
  Calls P f (List.toArray vals) w fun e w'=>e=.returned v∧RowKit.Below w.heap.size w w':=by
 refine Calls.mono (h (fun _=>none) vals w (fun _ _ _ h=>by cases h) (fun _ _ h=>by cases h) (Rels.vals vals) (fun b c hb=>by simp[hget]at hb) (fun _ _ _=>rfl)) fun e w' he=>?_
 obtain ⟨σ',x,rfl,_,_,h3,_,_,_,_,h8,h9,h10,h11,h12⟩:=he
 simp only[Rel]at h3
 subst h3
 exact ⟨rfl,⟨h8,h9,h10,h11,fun k hk=>h12 k hk fun b c hb=>by simp[hget]at hb⟩⟩
theorem calls_of_sum{P:Program}{E:Env}(hG:GamOk P E.gam){d:Nat}{f:FuncId}{vals:List Value}{v:Value}(h:fnSum P E [] d f (vals.map .val) []=some (.val v,[]))(w:World) :
  Calls P f (List.toArray vals) w fun e w'=>e=.returned v∧RowKit.Below w.heap.size w w' :=
 calls_of_facts (fnSum_facts hG (by simp) h).2 w
variable {P:Program} {N:Nat}
theorem A0b.weak_start{c:Code}{s0 s s':St}{e:Ex}(h:A0b P N c s e s')(hw:Wk s.u s0.u)(hlo:s0.lo≤s.lo)(hhi:s.hi≤s0.hi):A0b P N c s0 e s' :=
 fun w0 own σ0 lo0 hi0 a w hst Q hQ=>h w0 own σ0 lo0 hi0 a w (hst.weak hw hlo hhi) Q hQ
theorem A0b.weak_end{c:Code}{s s1 s':St}{e:Ex}(h:A0b P N c s e s1)(hw:Wk s'.u s1.u)(hlo:s1.lo≤s'.lo)(hhi:s'.hi≤s1.hi):A0b P N c s e s' :=
 fun w0 own σ0 lo0 hi0 a w hst Q hQ=>h w0 own σ0 lo0 hi0 a w hst Q fun a' w' hst'=>hQ a' w' (hst'.weak hw hlo hhi)
theorem A0b.loop{ι:Type}{c:Code}(I:ι→St)(μ:ι→Nat)(res:ι→St)(e:Ex)
  (h:∀i,(∃j,μ j<μ i∧res j=res i∧A0b P N c (I i) .normal (I j))∨(A0b P N c (I i) e (res i)∧e≠.normal)) (i:ι):A0b P N (.loop c) (I i) e (res i):=by
 have key:∀n i,μ i≤n→∃m,R1q P N m c (I i) e (res i):=by
  intro n
  induction n with
  | zero =>
   intro i hi
   rcases h i with ⟨j,hj,_⟩ | ⟨h1,h2⟩
   ·omega
   ·refine ⟨1,fun w0 own σ0 lo0 hi0 a w hst Q hQ=>?_⟩
    rw[rounds_succ]
    refine h1 w0 own σ0 lo0 hi0 a w hst _ fun a' w' hst'=>?_
    cases e with
    | normal=>exact absurd rfl h2
    | exit id=>exact hQ a' w' hst'
    | ret=>exact hQ a' w' hst'
  | succ n ih =>
   intro i hi
   rcases h i with ⟨j,hj,hr,h1⟩ | ⟨h1,h2⟩
   ·obtain ⟨m,hm⟩:=ih j (by omega)
    refine ⟨m+1,fun w0 own σ0 lo0 hi0 a w hst Q hQ=>?_⟩
    rw[rounds_succ]
    refine h1 w0 own σ0 lo0 hi0 a w hst _ fun a' w' hst'=>?_
    exact hm w0 own σ0 lo0 hi0 a' w' hst' Q (hr ▸ hQ)
   ·refine ⟨1,fun w0 own σ0 lo0 hi0 a w hst Q hQ=>?_⟩
    rw[rounds_succ]
    refine h1 w0 own σ0 lo0 hi0 a w hst _ fun a' w' hst'=>?_
    cases e with
    | normal=>exact absurd rfl h2
    | exit id=>exact hQ a' w' hst'
    | ret=>exact hQ a' w' hst'
 obtain ⟨m,hm⟩:=key (μ i) i (Nat.le_refl _)
 exact fun w0 own σ0 lo0 hi0 a w hst Q hQ=>wp_loop_rounds m (hm w0 own σ0 lo0 hi0 a w hst Q hQ)
theorem A0b.block{id:Nat}{c:Code}{s s':St}{e:Ex}(h:A0b P N c s e s')(he:e=.normal∨e=.exit id):A0b P N (.block id c) s .normal s':=by
 intro w0 own σ0 lo0 hi0 a w hst Q hQ
 refine wp_block (h w0 own σ0 lo0 hi0 a w hst _ fun a' w' hst'=>?_)
 rcases he with rfl | rfl
 ·exact hQ a' w' hst'
 ·simp only[Ex.to,Exit.inBlock,if_true];exact hQ a' w' hst'
def A2r:List Nat→Nat→List AV→List AV
 | _,_,[]=>[]
 | G,t,a :: r=>(match hasN G t with | true=>.any | false=>a) :: A2r G (t+1) r
theorem P1d(G:List Nat):∀(l:List AV) (t i:Nat),(A2r G t l)[i]?=(l[i]?).map fun a=>match hasN G (t+i) with | true=>.any | false=>a
 | [],t,i=>by simp[A2r]
 | a :: r,t,0=>by simp[A2r]
 | a :: r,t,i+1=>by
  simp only[A2r,List.getElem?_cons_succ]
  rw[P1d G r (t+1) i,show t+1+i=t+(i+1) by omega]
def G0c(G:List Nat)(s:St):St:={s with tmps:=A2r G 0 s.tmps,log:=[]}
theorem A1z(G:List Nat)(s:St):Wk (G0c G s).u s.u:=by
 intro l c' h
 cases l with
 | blk b=>exact ⟨c',h,WkC.refl c'⟩
 | tmp t =>
  simp only[St.u,G0c,stU,P1d,Nat.zero_add]at h
  cases hs:s.tmps[t]? with
  | none=>simp[hs]at h
  | some a =>
   simp only[hs,Option.map_some,Option.some.injEq]at h
   refine ⟨.av a,by simp[St.u,stU,hs],?_⟩
   subst h
   split
   ·exact fun _ _ _=>by simp only[Rel]
   ·exact fun _ _ h=>h
theorem X0n{call:Y0r}(hcall:∀β,D0t P (call β)){wy:Way}{F:Nat}{c:Code}{s s1:St}{e:Ex}(G:List Nat)
  (h:run P call N wy [] F (Ex×St) c s (fun e s'=>some (e,G0c G s'))=some (e,s1)):A0b P N c s e s1:=by
 obtain ⟨e',s',h1,h2,_⟩:=(Q0n hcall F).1 (Ex×St) (e,s1) c s _ (HFit.nil c) h
 simp only[Option.some.injEq,Prod.mk.injEq]at h1
 obtain ⟨rfl,rfl⟩:=h1
 exact h2.weak_end (A1z G s') (Nat.le_refl _) (Nat.le_refl _)
def ovA:List (Nat×AV)→(Nat→AV)→Nat→AV
 | [],x,i=>x i
 | (t,a) :: r,x,i=>match Nat.beq t i with | true=>a | false=>ovA r x i
def tmA(n:Nat)(o:List (Nat×AV))(x:Nat→AV):List AV:=(nums 0 n).map (ovA o x)
theorem M1a(n:Nat)(o:List (Nat×AV))(x:Nat→AV)(i:Nat):(tmA n o x)[i]?=if i<n then some (ovA o x i) else none:=by
 unfold tmA
 rw[List.getElem?_map]
 by_cases h:i<n
 ·have hlt:i<(nums 0 n).length:=by rw[K0u];exact h
  have :=(V0c n 0 i _ (List.getElem?_eq_getElem hlt)).1
  rw[List.getElem?_eq_getElem hlt,this,if_pos h]
  simp
 ·rw[if_neg h,List.getElem?_eq_none (by rw[K0u];omega)]
  rfl
end Go.Ab
namespace Go.Ab
inductive Sh where
 | int (k:IntKind)
 | agg (ks:List IntKind)
def R1u:List IntKind→List Value→Option (List Int)
 | [],[]=>some []
 | k :: ks,.int k' n :: r=>match decide (k=k'),R1u ks r with | true,some xs=>some (n :: xs) | _,_=>none
 | _,_=>none
def U2d:List IntKind→List Int→Option (List Value×List Int)
 | [],xs=>some ([],xs)
 | k :: ks,n :: xs=>match U2d ks xs with | some (vs,rest)=>some (.int k n :: vs,rest) | none=>none
 | _ :: _,[]=>none
def Sh.rd:Sh→AV→Option (List Int)
 | .int k,.val (.int k' n)=>match decide (k=k') with | true=>some [n] | false=>none
 | .agg ks,.val (.agg ⟨l⟩)=>R1u ks l
 | _,_=>none
def Sh.wr:Sh→List Int→Option (AV×List Int)
 | .int k,n :: xs=>some (.val (.int k n),xs)
 | .int _,[]=>none
 | .agg ks,xs=>match U2d ks xs with | some (vs,rest)=>some (.val (.agg ⟨vs⟩),rest) | none=>none
def Sh.len:Sh→Nat
 | .int _=>1
 | .agg ks=>ks.length
abbrev J0m:=List (Nat×Sh)
def J0k:J0m→Nat
 | []=>0
 | (_,s) :: r=>s.len+J0k r
theorem W1z:∀{ks:List IntKind} {l:List Value} {xs:List Int} (rest:List Int),R1u ks l=some xs→xs.length=ks.length∧U2d ks (xs++rest)=some (l,rest)
 | [],[],xs,rest,h=>by simp only[R1u,Option.some.injEq]at h;subst h;exact ⟨rfl,rfl⟩
 | [],_ :: _,xs,rest,h=>by simp[R1u]at h
 | k :: ks,[],xs,rest,h=>by simp[R1u]at h
 | k :: ks,v :: r,xs,rest,h=>by
  unfold R1u at h
  split at h
  ·rename_i he _;cases he
  ·rename_i k1 ks1 k' n r' he hv
   cases he
   cases hv
   split at h
   ·rename_i ys hk hy
    cases h
    have hk:=of_decide_eq_true hk
    subst hk
    obtain ⟨h1,h2⟩:=W1z rest hy
    exact ⟨by simp[h1],by simp[U2d,h2]⟩
   ·cases h
  ·cases h
theorem Sh.rd_wr{s:Sh}{a:AV}{xs:List Int}(rest:List Int)(h:s.rd a=some xs):xs.length=s.len∧s.wr (xs++rest)=some (a,rest):=by
 unfold Sh.rd at h
 split at h
 ·split at h
  ·rename_i hk
   cases h
   have hk:=of_decide_eq_true hk
   subst hk
   exact ⟨rfl,rfl⟩
  ·cases h
 ·obtain ⟨h1,h2⟩:=W1z rest h
  exact ⟨h1,by simp[Sh.wr,h2]⟩
 ·cases h
def rdI(l:List AV):J0m→Option (List Int)
 | []=>some []
 | (t,k) :: r=>match l[t]? with
  | some a=>match k.rd a,rdI l r with | some xs,some ys=>some (xs++ys) | _,_=>none
  | none=>none
def wrI:J0m→List Int→List (Nat×AV)
 | (t,k) :: r,xs=>match k.wr xs with | some (a,ys)=>(t,a) :: wrI r ys | none=>[]
 | [],_=>[]
def anys(G:List Nat):List (Nat×AV):=G.map fun i=>(i,.any)
def ovL(o:List (Nat×AV)):Nat→List AV→List AV
 | _,[]=>[]
 | i,a :: r=>ovA o (fun _=>a) i :: ovL o (i+1) r
def lpSt(N:Nat)(sl:J0m)(G:List Nat)(xs:List Int)(x:Nat→AV)(heap:Hp)(lo hi step:Nat):St:=⟨tmA N (wrI sl xs++anys G) x,heap,lo,hi,step,[]⟩
def Q0a(N:Nat)(sl:J0m)(G:List Nat)(pre:List Int→Bool)(post:List Int→List Int)(s:St):HTr :=
 match rdI s.tmps sl,Nat.beq s.tmps.length N with
 | some xs,true=>.test (pre xs) (.ret {s with tmps:=ovL (wrI sl (post xs)++anys G) 0 s.tmps,log:=sl.map (fun p=>.tmp p.1)++(G.map .tmp++s.log)}) .no
 | _,_=>.no
theorem K0w:∀(o:List (Nat×AV)) (x:Nat→AV) (i:Nat),(∃p∈o,p.1=i∧ovA o x i=p.2)∨(ovA o x i=x i∧∀p∈o,p.1≠i)
 | [],x,i=>.inr ⟨rfl,fun p h=>by cases h⟩
 | (t,a) :: r,x,i=>by
  simp only[ovA]
  split
  ·rename_i e
   exact .inl ⟨(t,a),by simp,Nat.eq_of_beq_eq_true e,rfl⟩
  ·rename_i e
   rcases K0w r x i with ⟨p,h1,h2,h3⟩ | ⟨h1,h2⟩
   ·exact .inl ⟨p,by simp[h1],h2,h3⟩
   ·refine .inr ⟨h1,fun p hp=>?_⟩
    rcases List.mem_cons.1 hp with rfl | hp
    ·intro e2;simp only at e2;subst e2;simp at e
    ·exact h2 p hp
theorem N2z{x y:Nat→AV}{i:Nat}(h:x i=y i):∀o:List (Nat×AV),ovA o x i=ovA o y i
 | []=>h
 | (t,a) :: r=>by simp only[ovA];split;rfl;exact N2z h r
theorem B1u(o:List (Nat×AV)):∀(l:List AV) (k i:Nat),(ovL o k l)[i]?=(l[i]?).map fun a=>ovA o (fun _=>a) (k+i)
 | [],k,i=>by simp[ovL]
 | a :: r,k,0=>by simp[ovL]
 | a :: r,k,i+1=>by
  simp only[ovL,List.getElem?_cons_succ]
  rw[B1u o r (k+1) i,show k+1+i=k+(i+1) by omega]
theorem V1g{l:List AV}{N:Nat}(hl:l.length=N)(o:List (Nat×AV)):ovL o 0 l=tmA N o (fun i=>l.getD i .any):=by
 apply List.ext_getElem?
 intro i
 rw[B1u,M1a,Nat.zero_add]
 by_cases hi:i<N
 ·rw[if_pos hi,List.getElem?_eq_getElem (by omega)]
  simp only[Option.map_some,Option.some.injEq]
  exact N2z (by simp[List.getD,List.getElem?_eq_getElem (show i<l.length by omega)]) o
 ·rw[if_neg hi,List.getElem?_eq_none (by omega)]
  rfl
theorem L1d{l:List AV}:∀{sl:J0m} {xs:List Int},rdI l sl=some xs→xs.length=J0k sl∧∀p∈wrI sl xs,l[p.1]?=some p.2
 | [],xs,h=>by simp only[rdI,Option.some.injEq]at h;subst h;exact ⟨rfl,fun p hp=>by simp[wrI]at hp⟩
 | (t,k) :: r,xs,h=>by
  simp only[rdI]at h
  split at h
  ·rename_i a ha
   split at h
   ·rename_i zs ys hz hy
    cases h
    obtain ⟨h1,h2⟩:=L1d hy
    obtain ⟨h3,h4⟩:=Sh.rd_wr ys hz
    refine ⟨by simp[J0k,h1,h3],fun p hp=>?_⟩
    simp only[wrI,h4,List.mem_cons]at hp
    rcases hp with rfl | hp
    ·exact ha
    ·exact h2 p hp
   ·cases h
  ·cases h
theorem Z0j:∀{sl:J0m} {xs:List Int} {p:Nat×AV},p∈wrI sl xs→∃q∈sl,q.1=p.1
 | [],xs,p,h=>by simp[wrI]at h
 | (t,k) :: r,xs,p,h=>by
  simp only[wrI]at h
  split at h
  ·rename_i a ys _
   simp only[List.mem_cons]at h
   rcases h with rfl | h
   ·exact ⟨(t,k),by simp,rfl⟩
   ·obtain ⟨q,h1,h2⟩:=Z0j h;exact ⟨q,by simp[h1],h2⟩
  ·simp at h
theorem J3n{P:Program}{call:Y0r}(hcall:∀β,D0t P (call β)){N F id:Nat}{wy:Way}{body:Code}{sl:J0m}{G:List Nat}{pre:List Int→Bool}{post:List Int→List Int}(μ:List Int→Nat)
  (hstep:∀xs,xs.length=J0k sl→pre xs=true→∀x heap lo hi step,
   (∃ys,ys.length=J0k sl∧pre ys=true∧μ ys<μ xs∧post ys=post xs∧run P call N wy [] F (Ex×St) body (lpSt N sl G xs x heap lo hi step) (fun e s'=>some (e,G0c G s'))=some (.normal,lpSt N sl G ys x heap lo hi step)) ∨
   run P call N wy [] F (Ex×St) body (lpSt N sl G xs x heap lo hi step) (fun e s'=>some (e,G0c G s'))=some (.exit id,lpSt N sl G (post xs) x heap lo hi step)) :
  ∀s s',(Q0a N sl G pre post s).sel=some s'→A0b P N (.block id (.loop body)) s .normal s'∧J0v s s':=by
 intro s s' hs
 unfold Q0a at hs
 split at hs
 ·rename_i xs hxs hN
  have hN:=Nat.eq_of_beq_eq_true hN
  simp only[HTr.sel]at hs
  cases hp:pre xs with
  | false=>rw[hp]at hs;cases hs
  | true =>
   rw[hp]at hs
   simp only[cond_true,Option.some.injEq]at hs
   subst hs
   obtain ⟨hlen,hmem⟩:=L1d hxs
   let x:Nat→AV:=fun i=>s.tmps.getD i .any
   refine ⟨?_,?_⟩
   ·let ι:={xs:List Int // xs.length=J0k sl∧pre xs=true}
    have hl:=A0b.loop (P:=P) (N:=N) (c:=body) (ι:=ι) (fun i=>lpSt N sl G i.1 x s.heap s.lo s.hi s.step) (fun i=>μ i.1) (fun i=>lpSt N sl G (post i.1) x s.heap s.lo s.hi s.step) (.exit id) (by
     intro ⟨xs,h1,h2⟩
     rcases hstep xs h1 h2 x s.heap s.lo s.hi s.step with ⟨ys,k1,k2,k3,k4,k5⟩ | k
     ·exact .inl ⟨⟨ys,k1,k2⟩,k3,by simp only[k4],X0n hcall G k5⟩
     ·exact .inr ⟨X0n hcall G k,by simp⟩) ⟨xs,hlen,hp⟩
    have hb:=A0b.block hl (.inr rfl)
    refine (hb.weak_start (s0:=s) ?_ (Nat.le_refl _) (Nat.le_refl _)).weak_end ?_ (Nat.le_refl _) (Nat.le_refl _)
    ·intro l c' h
     cases l with
     | blk b=>exact ⟨c',h,WkC.refl c'⟩
     | tmp t =>
      simp only[St.u,lpSt,stU,M1a]at h
      split at h
      ·rename_i ht
       simp only[Option.map_some,Option.some.injEq]at h
       have hst:s.tmps[t]?=some (x t):=by
        have:t<s.tmps.length:=by omega
        simp[x,this]
       refine ⟨.av (x t),by simp[St.u,stU,hst],?_⟩
       subst h
       rcases K0w (wrI sl xs++anys G) x t with ⟨p,h1,h2,h3⟩ | ⟨h1,_⟩
       ·rw[h3]
        rcases List.mem_append.1 h1 with h1 | h1
        ·have :=hmem p h1
         rw[h2,hst]at this
         rw[← Option.some.inj this]
         exact WkC.refl _
        ·simp only[anys,List.mem_map]at h1
         obtain ⟨g,_,rfl⟩:=h1
         exact fun _ _ _=>by simp only[Rel]
       ·rw[h1];exact WkC.refl _
      ·simp at h
    ·intro l c' h
     refine ⟨c',?_,WkC.refl c'⟩
     have e:=V1g hN (wrI sl (post xs)++anys G)
     simpa only[St.u,lpSt,e]using h
   ·refine ⟨fun l hl=>by simp[hl],fun l hl=>?_⟩
    cases l with
    | blk b=>rfl
    | tmp t =>
     simp only[St.u,stU,B1u,Nat.zero_add]
     cases ht:s.tmps[t]? with
     | none=>rfl
     | some a =>
      simp only[Option.map_some,Option.some.injEq,Con.av.injEq]
      rcases K0w (wrI sl (post xs)++anys G) (fun _=>a) t with ⟨p,h1,h2,h3⟩ | ⟨h1,_⟩
      ·exfalso
       apply hl
       simp only[List.mem_append,List.mem_map]
       rcases List.mem_append.1 h1 with h1 | h1
       ·obtain ⟨q,h4,h5⟩:=Z0j h1
        exact .inl ⟨q,h4,by rw[h5,h2]⟩
       ·simp only[anys,List.mem_map]at h1
        obtain ⟨g,h4,rfl⟩:=h1
        exact .inr (.inl ⟨g,h4,by rw[← h2]⟩)
      ·exact h1
 ·simp[HTr.sel]at hs
abbrev R0z:=List (Nat×TypeId×List IntKind)
def rdC:List IntKind→List AV→Option (List Int)
 | [],[]=>some []
 | k :: ks,.val (.int k' n) :: r=>match decide (k=k'),rdC ks r with | true,some xs=>some (n :: xs) | _,_=>none
 | _,_=>none
def wrC:List IntKind→List Int→Option (List AV×List Int)
 | [],xs=>some ([],xs)
 | k :: ks,n :: xs=>match wrC ks xs with | some (vs,rest)=>some (.val (.int k n) :: vs,rest) | none=>none
 | _ :: _,[]=>none
theorem C3v:∀{ks:List IntKind} {l:List AV} {xs:List Int} (rest:List Int),rdC ks l=some xs→xs.length=ks.length∧wrC ks (xs++rest)=some (l,rest)
 | [],[],xs,rest,h=>by simp only[rdC,Option.some.injEq]at h;subst h;exact ⟨rfl,rfl⟩
 | [],_ :: _,xs,rest,h=>by simp[rdC]at h
 | k :: ks,[],xs,rest,h=>by simp[rdC]at h
 | k :: ks,v :: r,xs,rest,h=>by
  unfold rdC at h
  split at h
  ·rename_i he _;cases he
  ·rename_i k1 ks1 k' n r' he hv
   cases he
   cases hv
   split at h
   ·rename_i ys hk hy
    cases h
    have hk:=of_decide_eq_true hk
    subst hk
    obtain ⟨h1,h2⟩:=C3v rest hy
    exact ⟨by simp[h1],by simp[wrC,h2]⟩
   ·cases h
  ·cases h
def P0a:R0z→Nat
 | []=>0
 | (_,_,ks) :: r=>ks.length+P0a r
def rdH:R0z→Hp→Option (List Int)
 | [],[]=>some []
 | (b,e,ks) :: r,(b',.row e' cs) :: h=>match Nat.beq b b',Nat.beq e e',rdC ks cs,rdH r h with
  | true,true,some xs,some ys=>some (xs++ys)
  | _,_,_,_=>none
 | _,_=>none
def wrH:R0z→List Int→Hp
 | (b,e,ks) :: r,xs=>match wrC ks xs with | some (cs,ys)=>(b,.row e cs) :: wrH r ys | none=>[]
 | [],_=>[]
theorem P2v:∀{rows:R0z} {h:Hp} {xs:List Int},rdH rows h=some xs→xs.length=P0a rows∧wrH rows xs=h
 | [],[],xs,h=>by simp only[rdH,Option.some.injEq]at h;subst h;exact ⟨rfl,rfl⟩
 | [],_ :: _,xs,h=>by simp[rdH]at h
 | (b,e,ks) :: r,[],xs,h=>by simp[rdH]at h
 | (b,e,ks) :: r,(b',c) :: hp,xs,h=>by
  cases c with
  | av a=>simp[rdH]at h
  | obj o=>simp[rdH]at h
  | row e' cs =>
   simp only[rdH]at h
   split at h
   ·rename_i zs ys hb he hz hy
    cases h
    have hb:=Nat.eq_of_beq_eq_true hb
    have he:=Nat.eq_of_beq_eq_true he
    subst hb;subst he
    obtain ⟨h1,h2⟩:=P2v hy
    obtain ⟨h3,h4⟩:=C3v ys hz
    exact ⟨by simp[P0a,h1,h3],by simp[wrH,h4,h2]⟩
   ·cases h
theorem W1v:∀{rows:R0z} {xs:List Int} {b:Nat} {c:Con},hget (wrH rows xs) b=some c→∃q∈rows,q.1=b
 | [],xs,b,c,h=>by simp[wrH,hget]at h
 | (b',e,ks) :: r,xs,b,c,h=>by
  simp only[wrH]at h
  split at h
  ·simp only[hget]at h
   split at h
   ·rename_i hb;exact ⟨(b',e,ks),by simp,Nat.eq_of_beq_eq_true hb⟩
   ·obtain ⟨q,h1,h2⟩:=W1v h;exact ⟨q,by simp[h1],h2⟩
  ·simp[hget]at h
def fxOk(l:List AV):List (Nat×Nat×Nat)→Bool
 | []=>true
 | (t,b,o) :: r=>match l[t]? with
  | some (.ptr b' o')=>Nat.beq b b'&&(Nat.beq o o'&&fxOk l r)
  | _=>false
def fxs(fx:List (Nat×Nat×Nat)):List (Nat×AV):=fx.map fun p=>(p.1,.ptr p.2.1 p.2.2)
theorem J1u{l:List AV}:∀{fx:List (Nat×Nat×Nat)},fxOk l fx=true→∀p∈fxs fx,l[p.1]?=some p.2
 | [],_,p,hp=>by simp[fxs]at hp
 | (t,b,o) :: r,h,p,hp=>by
  simp only[fxOk]at h
  split at h
  ·rename_i b' o' ht
   simp only[Bool.and_eq_true]at h
   have hb:=Nat.eq_of_beq_eq_true h.1
   have ho:=Nat.eq_of_beq_eq_true h.2.1
   subst hb;subst ho
   simp only[fxs,List.map_cons,List.mem_cons]at hp
   rcases hp with rfl | hp
   ·exact ht
   ·exact J1u h.2.2 p hp
  ·cases h
def lqTm(_:Nat)(sl:J0m)(fx:List (Nat×Nat×Nat))(G:List Nat)(xs:List Int):List (Nat×AV):=wrI sl xs++(fxs fx++anys G)
def lqSt(N:Nat)(sl:J0m)(fx:List (Nat×Nat×Nat))(G:List Nat)(rows:R0z)(xs:List Int)(x:Nat→AV)(lo hi step:Nat):St:=⟨tmA N (lqTm N sl fx G xs) x,wrH rows (xs.drop (J0k sl)),lo,hi,step,[]⟩
def Y0h(N:Nat)(sl:J0m)(fx:List (Nat×Nat×Nat))(G:List Nat)(rows:R0z)(pre:List Int→Bool)(post:List Int→List Int)(s:St):HTr :=
 match rdI s.tmps sl,rdH rows s.heap,fxOk s.tmps fx,Nat.beq s.tmps.length N with
 | some xs,some ys,true,true=>.test (pre (xs++ys)) (.ret {s with tmps:=ovL (lqTm N sl fx G (post (xs++ys))) 0 s.tmps,heap:=wrH rows ((post (xs++ys)).drop (J0k sl)),log:=sl.map (fun p=>.tmp p.1)++(fx.map (fun p=>.tmp p.1)++(G.map .tmp++(rows.map (fun p=>.blk p.1)++s.log)))}) .no
 | _,_,_,_=>.no
theorem M1e:∀{sl:J0m} {l:List AV} {xs:List Int} (rest:List Int),rdI l sl=some xs→∀p∈wrI sl (xs++rest),l[p.1]?=some p.2
 | [],l,xs,rest,h,p,hp=>by simp[wrI]at hp
 | (t,k) :: r,l,xs,rest,h,p,hp=>by
  simp only[rdI]at h
  split at h
  ·rename_i a ha
   split at h
   ·rename_i zs ys hz hy
    cases h
    obtain ⟨h3,h4⟩:=Sh.rd_wr (ys++rest) hz
    rw[List.append_assoc]at hp
    simp only[wrI,h4,List.mem_cons]at hp
    rcases hp with rfl | hp
    ·exact ha
    ·exact M1e rest hy p hp
   ·cases h
  ·cases h
theorem C4t{P:Program}{call:Y0r}(hcall:∀β,D0t P (call β)){N F id:Nat}{wy:Way}{body:Code}{sl:J0m}{fx:List (Nat×Nat×Nat)}{G:List Nat}{rows:R0z}{pre:List Int→Bool}{post:List Int→List Int}(μ:List Int→Nat)
  (hstep:∀xs,xs.length=J0k sl+P0a rows→pre xs=true→∀x lo hi step,
   (∃ys,ys.length=J0k sl+P0a rows∧pre ys=true∧μ ys<μ xs∧post ys=post xs∧run P call N wy [] F (Ex×St) body (lqSt N sl fx G rows xs x lo hi step) (fun e s'=>some (e,G0c G s'))=some (.normal,lqSt N sl fx G rows ys x lo hi step)) ∨
   run P call N wy [] F (Ex×St) body (lqSt N sl fx G rows xs x lo hi step) (fun e s'=>some (e,G0c G s'))=some (.exit id,lqSt N sl fx G rows (post xs) x lo hi step)) :
  ∀s s',(Y0h N sl fx G rows pre post s).sel=some s'→A0b P N (.block id (.loop body)) s .normal s'∧J0v s s':=by
 intro s s' hs
 unfold Y0h at hs
 split at hs
 ·rename_i xs ys hxs hys hfx hN
  have hN:=Nat.eq_of_beq_eq_true hN
  simp only[HTr.sel]at hs
  cases hp:pre (xs++ys) with
  | false=>rw[hp]at hs;cases hs
  | true =>
   rw[hp]at hs
   simp only[cond_true,Option.some.injEq]at hs
   subst hs
   obtain ⟨hlen,_⟩:=L1d hxs
   have hmem:=M1e ys hxs
   obtain ⟨hlen2,hheap⟩:=P2v hys
   have hfix:=J1u hfx
   have hdrop:(xs++ys).drop (J0k sl)=ys:=by rw[← hlen];simp
   let x:Nat→AV:=fun i=>s.tmps.getD i .any
   refine ⟨?_,?_⟩
   ·let ι:={xs:List Int // xs.length=J0k sl+P0a rows∧pre xs=true}
    have hl:=A0b.loop (P:=P) (N:=N) (c:=body) (ι:=ι) (fun i=>lqSt N sl fx G rows i.1 x s.lo s.hi s.step) (fun i=>μ i.1) (fun i=>lqSt N sl fx G rows (post i.1) x s.lo s.hi s.step) (.exit id) (by
     intro ⟨xs,h1,h2⟩
     rcases hstep xs h1 h2 x s.lo s.hi s.step with ⟨ys,k1,k2,k3,k4,k5⟩ | k
     ·exact .inl ⟨⟨ys,k1,k2⟩,k3,by simp only[k4],X0n hcall G k5⟩
     ·exact .inr ⟨X0n hcall G k,by simp⟩) ⟨xs++ys,by simp[hlen,hlen2],hp⟩
    have hb:=A0b.block hl (.inr rfl)
    refine (hb.weak_start (s0:=s) ?_ (Nat.le_refl _) (Nat.le_refl _)).weak_end ?_ (Nat.le_refl _) (Nat.le_refl _)
    ·intro l c' h
     cases l with
     | blk b =>
      simp only[St.u,lqSt,stU,hdrop,hheap]at h
      exact ⟨c',h,WkC.refl c'⟩
     | tmp t =>
      simp only[St.u,lqSt,stU,M1a]at h
      split at h
      ·rename_i ht
       simp only[Option.map_some,Option.some.injEq]at h
       have hst:s.tmps[t]?=some (x t):=by
        have:t<s.tmps.length:=by omega
        simp[x,this]
       refine ⟨.av (x t),by simp[St.u,stU,hst],?_⟩
       subst h
       rcases K0w (lqTm N sl fx G (xs++ys)) x t with ⟨p,h1,h2,h3⟩ | ⟨h1,_⟩
       ·rw[h3]
        unfold lqTm at h1
        rcases List.mem_append.1 h1 with h1 | h1
        ·have :=hmem p h1
         rw[h2,hst]at this
         rw[← Option.some.inj this]
         exact WkC.refl _
        ·rcases List.mem_append.1 h1 with h1 | h1
         ·have :=hfix p h1
          rw[h2,hst]at this
          rw[← Option.some.inj this]
          exact WkC.refl _
         ·simp only[anys,List.mem_map]at h1
          obtain ⟨g,_,rfl⟩:=h1
          exact fun _ _ _=>by simp only[Rel]
       ·rw[h1];exact WkC.refl _
      ·simp at h
    ·intro l c' h
     refine ⟨c',?_,WkC.refl c'⟩
     have e:=V1g hN (lqTm N sl fx G (post (xs++ys)))
     simpa only[St.u,lqSt,e]using h
   ·refine ⟨fun l hl=>by simp[hl],fun l hl=>?_⟩
    cases l with
    | blk b =>
     have hno:∀q∈rows,q.1≠b:=by
      intro q hq e
      apply hl
      simp only[List.mem_append,List.mem_map]
      exact .inr (.inr (.inr (.inl ⟨q,hq,by rw[e]⟩)))
     have h1:∀zs,hget (wrH rows zs) b=none:=by
      intro zs
      cases hz:hget (wrH rows zs) b with
      | none=>rfl
      | some c=>obtain ⟨q,h2,h3⟩:=W1v hz;exact absurd h3 (hno q h2)
     show hget (wrH rows _) b=hget s.heap b
     rw[h1,← hheap,h1]
    | tmp t =>
     simp only[St.u,stU,B1u,Nat.zero_add]
     cases ht:s.tmps[t]? with
     | none=>rfl
     | some a =>
      simp only[Option.map_some,Option.some.injEq,Con.av.injEq]
      rcases K0w (lqTm N sl fx G (post (xs++ys))) (fun _=>a) t with ⟨p,h1,h2,h3⟩ | ⟨h1,_⟩
      ·exfalso
       apply hl
       simp only[List.mem_append,List.mem_map]
       unfold lqTm at h1
       rcases List.mem_append.1 h1 with h1 | h1
       ·obtain ⟨q,h4,h5⟩:=Z0j h1
        exact .inl ⟨q,h4,by rw[h5,h2]⟩
       ·rcases List.mem_append.1 h1 with h1 | h1
        ·simp only[fxs,List.mem_map]at h1
         obtain ⟨q,h4,rfl⟩:=h1
         exact .inr (.inl ⟨q,h4,by rw[← h2]⟩)
        ·simp only[anys,List.mem_map]at h1
         obtain ⟨g,h4,rfl⟩:=h1
         exact .inr (.inr (.inl ⟨g,h4,by rw[← h2]⟩))
      ·exact h1
 ·simp[HTr.sel]at hs
def wrV:List Nat→List Value→List (Nat×AV)
 | t :: r,v :: vs=>(t,.val v) :: wrV r vs
 | _,_=>[]
abbrev D3q:=List (Nat×TypeId×Nat)
def wrCs:Nat→List Value→Option (List AV×List Value)
 | 0,vs=>some ([],vs)
 | n+1,v :: vs=>match wrCs n vs with
  | some (l,rest)=>some (.val v :: l,rest)
  | none=>none
 | _+1,[]=>none
def wrW:D3q→List Value→Hp
 | (b,e,n) :: r,xs=>match wrCs n xs with | some (cs,ys)=>(b,.row e cs) :: wrW r ys | none=>[]
 | [],_=>[]
def lvTm(sl:List Nat)(fx:List (Nat×Nat×Nat))(G:List Nat)(xs:List Value):List (Nat×AV):=wrV sl xs++(fxs fx++anys G)
def lvSt(N:Nat)(sl:List Nat)(fx:List (Nat×Nat×Nat))(G:List Nat)(rows:D3q)(xs:List Value)(x:Nat→AV)(lo hi step:Nat):St:=⟨tmA N (lvTm sl fx G xs) x,wrW rows (xs.drop sl.length),lo,hi,step,[]⟩
class Cod (α:Type) where
 enc:α→Value
 dec:Value→Option α
 law:∀v a,dec v=some a→v=enc a
class Args (α:Type) where
 encs:α→List AV
 decs:List AV→Option α
 law:∀l a,decs l=some a→l=encs a
instance:Cod Int where
 enc x:=.int .i64 x
 dec v:=match v with | .int .i64 x=>some x | _=>none
 law v a h:=by split at h<;>simp_all
instance:Cod Bool where
 enc x:=.bool x
 dec v:=match v with | .bool x=>some x | _=>none
 law v a h:=by split at h<;>simp_all
structure V3 where
 x:Int
 y:Int
 z:Int
instance:Cod V3 where
 enc v:=.agg #[.int .i64 v.x,.int .i64 v.y,.int .i64 v.z]
 dec v:=match v with | .agg ⟨[.int .i64 x,.int .i64 y,.int .i64 z]⟩=>some ⟨x,y,z⟩ | _=>none
 law v a h:=by split at h<;>simp_all;subst h;simp
structure V4 where
 w:Int
 x:Int
 y:Int
 z:Int
instance:Cod V4 where
 enc v:=.agg #[.int .i64 v.w,.int .i64 v.x,.int .i64 v.y,.int .i64 v.z]
 dec v:=match v with | .agg ⟨[.int .i64 w,.int .i64 x,.int .i64 y,.int .i64 z]⟩=>some ⟨w,x,y,z⟩ | _=>none
 law v a h:=by split at h<;>simp_all;subst h;simp
structure M9 where
 a:V3
 b:V3
 c:V3
instance:Cod M9 where
 enc m:=.agg #[.int .i64 m.a.x,.int .i64 m.a.y,.int .i64 m.a.z,.int .i64 m.b.x,.int .i64 m.b.y,.int .i64 m.b.z,.int .i64 m.c.x,.int .i64 m.c.y,.int .i64 m.c.z]
 dec v:=match v with | .agg ⟨[.int .i64 a,.int .i64 b,.int .i64 c,.int .i64 d,.int .i64 e,.int .i64 f,.int .i64 g,.int .i64 h,.int .i64 i]⟩=>some ⟨⟨a,b,c⟩,⟨d,e,f⟩,⟨g,h,i⟩⟩ | _=>none
 law v a h:=by split at h<;>simp_all;subst h;simp
structure Two(α β:Type) where
 a:α
 b:β
instance {α β:Type} [Cod α] [Cod β]:Cod (Two α β) where
 enc p:=.tuple #[Cod.enc p.a,Cod.enc p.b]
 dec v:=match v with
  | .tuple ⟨[a,b]⟩=>match Cod.dec a,Cod.dec b with | some x,some y=>some ⟨x,y⟩ | _,_=>none
  | _=>none
 law v a h:=by
  split at h
  ·split at h
   ·rename_i h1 h2
    cases h
    rw[Cod.law _ _ h1,Cod.law _ _ h2]
   ·cases h
  ·cases h
instance:Args Unit where
 encs _:=[]
 decs l:=match l with | []=>some () | _=>none
 law l a h:=by split at h<;>simp_all
instance {α β:Type} [Cod α] [Args β]:Args (α×β) where
 encs p:=.val (Cod.enc p.1) :: Args.encs p.2
 decs l:=match l with
  | .val v :: r=>match Cod.dec v,Args.decs r with | some x,some y=>some (x,y) | _,_=>none
  | _=>none
 law l a h:=by
  split at h
  ·split at h
   ·rename_i h1 h2
    cases h
    rw[Cod.law _ _ h1,Args.law _ _ h2]
   ·cases h
  ·cases h
variable {α ω:Type}
def row(e:TypeId)(b:Bool):List Con:=[.row e [.val (.bool b)]]
def S[Args α][Cod ω](e:TypeId)(g:Bool→α→ω×Bool):D0c:=fun args cs=>match args,cs with
 | .ptr 0 0 :: r,[.row e' [.val (.bool b)]]=>match Nat.beq e e',Args.decs (α:=α) r with
  | true,some a=>.ret (.val (Cod.enc (g b a).1)) (row e (g b a).2)
  | _,_=>.no
 | _,_=>.no
theorem C2y[Args α][Cod ω]{e:TypeId}{g:Bool→α→ω×Bool}{args:List AV}{cs cs':List Con}{r:AV}(h:(S e g args cs).sel=some (r,cs')) :
  ∃b a,args=.ptr 0 0 :: Args.encs a∧cs=row e b∧r=.val (Cod.enc (g b a).1)∧cs'=row e (g b a).2:=by
 unfold S at h
 split at h
 ·split at h
  ·rename_i e' b _ _ a h1 h2
   simp only[STr.sel,Option.some.injEq,Prod.mk.injEq]at h
   obtain ⟨rfl,rfl⟩:=h
   refine ⟨b,a,by rw[Args.law _ _ h2],?_,rfl,rfl⟩
   rw[Nat.eq_of_beq_eq_true h1];rfl
  ·simp[STr.sel]at h
 ·simp[STr.sel]at h
theorem S_ok[Args α][Cod ω]{P:Program}{E:Env}(hG:GamOk P E.gam){f:FuncId}{e:TypeId}{g:Bool→α→ω×Bool}(d:Nat)
  (h:∀b a,fnSum P E [] d f (.ptr 0 0 :: Args.encs a) (row e b)=some (.val (Cod.enc (g b a).1),row e (g b a).2)):A0h P f (S e g):=by
 refine K0a hG fun args cs r cs' hs=>?_
 obtain ⟨b,a,rfl,rfl,rfl,rfl⟩:=C2y hs
 exact ⟨by simp[row],d,h b a⟩
def S0[Args α][Cod ω](g:α→ω):D0c:=fun args cs=>match cs with
 | []=>match Args.decs (α:=α) args with
  | some a=>.ret (.val (Cod.enc (g a))) []
  | none=>.no
 | _ :: _=>.no
theorem W1w[Args α][Cod ω]{g:α→ω}{args:List AV}{cs cs':List Con}{r:AV}(h:(S0 g args cs).sel=some (r,cs')) :
  ∃a,args=Args.encs a∧cs=[]∧r=.val (Cod.enc (g a))∧cs'=[]:=by
 unfold S0 at h
 split at h
 ·split at h
  ·rename_i a h1
   simp only[STr.sel,Option.some.injEq,Prod.mk.injEq]at h
   obtain ⟨rfl,rfl⟩:=h
   exact ⟨a,Args.law _ _ h1,rfl,rfl,rfl⟩
  ·simp[STr.sel]at h
 ·simp[STr.sel]at h
theorem H0n[Args α][Cod ω]{P:Program}{E:Env}(hG:GamOk P E.gam){f:FuncId}{g:α→ω}(d:Nat)
  (h:∀a,fnSum P E [] d f (Args.encs a) []=some (.val (Cod.enc (g a)),[])):A0h P f (S0 g):=by
 refine K0a hG fun args cs r cs' hs=>?_
 obtain ⟨a,rfl,rfl,rfl,rfl⟩:=W1w hs
 exact ⟨by simp,d,h a⟩
theorem GamOk.nil{P:Program}:GamOk P []:=fun p h=>by cases h
theorem GamOk.cons{P:Program}{f:FuncId}{T:D0c}{Γ:Gam}(h:A0h P f T)(k:GamOk P Γ):GamOk P ((f,T) :: Γ):=by
 intro p hp
 rcases List.mem_cons.1 hp with rfl | hp
 ·exact h
 ·exact k p hp
theorem GamOk.append{P:Program}{Γ Δ:Gam}(h:GamOk P Γ)(k:GamOk P Δ):GamOk P (Γ++Δ):=by
 intro p hp
 rcases List.mem_append.1 hp with hp | hp
 ·exact h p hp
 ·exact k p hp
structure Ops where
 add:Bool→Int→Int→Int×Bool
 sub:Bool→Int→Int→Int×Bool
 mul:Bool→Int→Int→Int×Bool
 div:Bool→Int→Int→Int×Bool
 mod:Bool→Int→Int→Int×Bool
 part:Bool→Int→Int→Int→Int×Bool
 norm:Bool→Int→Int→Int→Int×Bool
 sqrt:Bool→Int→Int×Bool
def op1(g:Bool→Int→Int×Bool):Bool→Int×Unit→Int×Bool:=fun b p=>g b p.1
def op2(g:Bool→Int→Int→Int×Bool):Bool→Int×Int×Unit→Int×Bool:=fun b p=>g b p.1 p.2.1
def op3(g:Bool→Int→Int→Int→Int×Bool):Bool→Int×Int×Int×Unit→Int×Bool:=fun b p=>g b p.1 p.2.1 p.2.2.1
end Go.Ab
