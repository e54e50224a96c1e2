/- A part of the proofs: lemmas, no statement of their own; no condition. -/
import Derived.Test.YtoocjipllmkjcaaGreatGAbH
import Derived.LoopN
namespace Go.Ab
variable {β:Type}
def Y0e{α γ:Type}:List α→(List α→γ)→γ
 | [],k=>k []
 | a :: r,k=>Y0e r fun r'=>k (a :: r')
theorem M0n{α γ:Type}:∀(l:List α) (k:List α→γ),Y0e l k=k l
 | [],_=>rfl
 | a :: r,k=>by simp only[Y0e,M0n r]
def G2n{γ:Type}(v:Value)(k:Value→γ):γ :=
 match v with
 | .int ik n=>k (.int ik n)
 | .bool b=>k (.bool b)
 | .string s=>k (.string s)
 | x=>k x
theorem Z1z{γ:Type}(v:Value)(k:Value→γ):G2n v k=k v:=by cases v<;>rfl
def A1d{γ:Type}:List Value→(List Value→γ)→γ
 | [],k=>k []
 | a :: r,k=>G2n a fun a'=>A1d r fun r'=>k (a' :: r')
theorem E1t{γ:Type}:∀(l:List Value) (k:List Value→γ),A1d l k=k l
 | [],_=>rfl
 | a :: r,k=>by simp only[A1d,Z1z,E1t r]
def G2m{γ:Type}(v:Value)(k:Value→γ):γ :=
 match v with
 | .int ik n=>k (.int ik n)
 | .bool b=>k (.bool b)
 | .string s=>k (.string s)
 | .agg ⟨l⟩=>A1d l fun l'=>k (.agg ⟨l'⟩)
 | .tuple ⟨l⟩=>A1d l fun l'=>k (.tuple ⟨l'⟩)
 | x=>k x
theorem G2p{γ:Type}(v:Value)(k:Value→γ):G2m v k=k v:=by
 cases v<;>first | rfl | (rename_i a;cases a;simp only[G2m,E1t])
def X1t{γ:Type}(a:AV)(k:AV→γ):γ :=
 match a with
 | .val v=>G2m v fun v'=>k (.val v')
 | .ptr b off=>U0r b fun b'=>U0r off fun off'=>k (.ptr b' off')
 | x=>k x
theorem N1p{γ:Type}(a:AV)(k:AV→γ):X1t a k=k a:=by
 cases a<;>simp only[X1t,G2p,K0p]
def A1c{γ:Type}:List AV→(List AV→γ)→γ
 | [],k=>k []
 | a :: r,k=>X1t a fun a'=>A1c r fun r'=>k (a' :: r')
theorem W0t{γ:Type}:∀(l:List AV) (k:List AV→γ),A1c l k=k l
 | [],_=>rfl
 | a :: r,k=>by simp only[A1c,N1p,W0t r]
def G2j{γ:Type}(c:Con)(k:Con→γ):γ :=
 match c with
 | .av a=>X1t a fun a'=>k (.av a')
 | .row e cs=>A1c cs fun cs'=>k (.row e cs')
 | .obj o=>k (.obj o)
theorem G2k{γ:Type}(c:Con)(k:Con→γ):G2j c k=k c:=by
 cases c<;>simp only[G2j,N1p,W0t]
def J1p{γ:Type}:Wr→(Wr→γ)→γ
 | [],k=>k []
 | (l,c) :: r,k=>G2j c fun c'=>J1p r fun r'=>k ((l,c') :: r')
theorem E1u{γ:Type}:∀(l:Wr) (k:Wr→γ),J1p l k=k l
 | [],_=>rfl
 | (l,c) :: r,k=>by simp only[J1p,G2k,E1u r]
def X0y:Wr→List Loc→List Loc
 | [],l=>l
 | (x,_) :: r,l=>x :: X0y r l
theorem W0x{x:Loc}:∀{wr:Wr} {l:List Loc},x∈X0y wr l↔(∃p∈wr,p.1=x)∨x∈l
 | [],l=>by simp[X0y]
 | (y,c) :: r,l=>by simp[X0y,W0x (wr:=r),or_assoc,eq_comm]
def okWr:Wr→Bool
 | []=>true
 | (.tmp _,.av _) :: r=>okWr r
 | (.blk _,_) :: r=>okWr r
 | _=>false
def N1u:Wr→Bool
 | []=>false
 | (.tmp _,_) :: r=>N1u r
 | (.blk _,_) :: _=>true
theorem H1m(tmps:List AV)(heap:Hp):∀wr:Wr,N1u wr=false→(R0m tmps heap wr).2=heap
 | [],_=>rfl
 | (.tmp t,c) :: r,h=>by
  have :=H1m tmps heap r (by simpa[N1u]using h)
  cases c<;>simp only[R0m,wr1,this]
 | (.blk _,_) :: _,h=>by simp[N1u]at h
def T1t{γ:Type}(wr:Wr)(tmps:List AV)(heap:Hp)(k:Hp→γ):γ :=
 match N1u wr with
 | true=>Y0e (R0m tmps heap wr).2 k
 | false=>k heap
theorem Z1y{γ:Type}(wr:Wr)(tmps:List AV)(heap:Hp)(k:Hp→γ):T1t wr tmps heap k=k (R0m tmps heap wr).2:=by
 unfold T1t
 split
 ·rw[M0n]
 ·rename_i h;rw[H1m tmps heap wr h]
def stWr{γ:Type}(al:Bool)(s:St)(wr:Wr)(k:St→γ):γ :=
 Y0e (R0m s.tmps s.heap wr).1 fun tmps=>T1t wr s.tmps s.heap fun heap=>match al with
  | true=>U0r (s.lo+s.step) fun lo=>k ⟨tmps,heap,lo,s.hi,s.step,X0y wr s.log⟩
  | false=>k ⟨tmps,heap,s.lo,s.hi,s.step,X0y wr s.log⟩
def C2g(al:Bool)(s:St):Nat:=match al with | true=>s.step | false=>0
theorem R3j{γ:Type}(al:Bool)(s:St)(wr:Wr)(k:St→γ):stWr al s wr k=k ⟨(R0m s.tmps s.heap wr).1,(R0m s.tmps s.heap wr).2,s.lo+C2g al s,s.hi,s.step,X0y wr s.log⟩:=by
 cases al<;>simp only[stWr,M0n,Z1y,K0p,C2g,Nat.add_zero]
def E1c(qf:FuncId→Bool)(o:Oper):Bool :=
 match o.op with
 | .alloc _ | .box .. | .buildSlice .. | .makeMap .. | .makeSlice ..=>true
 | .call c=>match c.callee with | .value (.func f)=>!qf f | .builtin _=>false | _=>true
 | _=>false
theorem R1g(tmps:List AV)(heap:Hp):∀wr:Wr,Sub (stU (R0m tmps heap wr).1 (R0m tmps heap wr).2) (upd (stU tmps heap) wr)
 | []=>Sub.refl _
 | x :: r=>by
  simp only[R0m,upd]
  exact (V3d _ _ x).trans (Sub.upd1 (R1g tmps heap r) x.1 x.2)
theorem T2t(tmps:List AV)(heap:Hp)(x:Loc×Con)(hx:okWr [x]=true)(l:Loc)(h:x.1≠l):stU (wr1 tmps heap x).1 (wr1 tmps heap x).2 l=stU tmps heap l:=by
 obtain ⟨lx,c⟩:=x
 cases lx with
 | tmp t =>
  cases c<;>simp[okWr]at hx
  cases l with
  | tmp t' =>
   simp only[wr1,stU]
   rw[List.getElem?_set_ne (fun e=>h (by rw[e]))]
  | blk b=>rfl
 | blk b =>
  cases l with
  | tmp t'=>rfl
  | blk b' =>
   simp only[wr1,stU,X1y]
   rw[if_neg (fun e=>h (by rw[e]))]
theorem D1m(tmps:List AV)(heap:Hp):∀(wr:Wr),okWr wr=true→∀(l:Loc),(∀p∈wr,p.1≠l)→stU (R0m tmps heap wr).1 (R0m tmps heap wr).2 l=stU tmps heap l
 | [],_,_,_=>rfl
 | (lx,c) :: r,hok,l,h=>by
  have h1:okWr [(lx,c)]=true∧okWr r=true:=by
   cases lx<;>cases c<;>simp_all [okWr]
  simp only[R0m]
  rw[T2t _ _ (lx,c) h1.1 l (h (lx,c) (by simp)),D1m tmps heap r h1.2 l fun p hp=>h p (by simp[hp])]
def J0v(s s':St):Prop:=(∀l,l∈s.log→l∈s'.log)∧∀l,l ∉ s'.log→s'.u l=s.u l
theorem J0v.refl(s:St):J0v s s:=⟨fun _ h=>h,fun _ _=>rfl⟩
theorem J0v.trans{a b c:St}(h:J0v a b)(k:J0v b c):J0v a c :=
 ⟨fun l hl=>k.1 l (h.1 l hl),fun l hl=>(k.2 l hl).trans (h.2 l fun hb=>hl (k.1 l hb))⟩
def B0j(P:Program)(call:R0c β)(qf:FuncId→Bool)(N:Nat)(ops:Array Oper):List Oper→St→List Foot→(St→List Foot→Option β)→Option β
 | [],s,acc,K=>K s acc
 | o :: r,s,acc,K=>P3e P call N ops s.tmps s.heap o s.lo (s.lo+C2g (E1c qf o) s) fun tmps rd wr =>
   J1p wr fun wr=>match okWr wr with
    | true=>stWr (E1c qf o) {s with tmps:=tmps} wr fun s'=>B0j P call qf N ops r s' (acc++[C3e rd wr]) K
    | false=>none
def U0g:Nat→List It→Nat→Prop
 | lo,[],hi=>lo=hi
 | lo,it :: r,hi=>it.lo=lo∧lo≤it.hi∧U0g it.hi r hi
theorem U0g.bounds:∀{items:List It} {lo hi:Nat},U0g lo items hi→lo≤hi∧∀it∈items,lo≤it.lo∧it.hi≤hi
 | [],lo,hi,h=>by simp only[U0g]at h;exact ⟨by omega,fun it hit=>by cases hit⟩
 | it :: r,lo,hi,h=>by
  obtain ⟨h1,h2,h3⟩:=h
  obtain ⟨h4,h5⟩:=h3.bounds
  refine ⟨by omega,fun x hx=>?_⟩
  rcases List.mem_cons.1 hx with rfl | hx
  ·omega
  ·have :=h5 x hx;omega
theorem U0g.apart:∀{items:List It} {lo hi:Nat},U0g lo items hi→items.Pairwise R1h
 | [],_,_,_=>List.Pairwise.nil
 | it :: r,lo,hi,h=>by
  obtain ⟨h1,h2,h3⟩:=h
  exact List.pairwise_cons.2 ⟨fun x hx=>.inl (h3.bounds.2 x hx).1,h3.apart⟩
theorem J0j{P:Program}{call:R0c β}{qf:FuncId→Bool}{N:Nat}{ops:Array Oper}(hcall:D0t P call){K:St→List Foot→Option β}{res:β} :
  ∀(l:List Oper) (i:Nat) (s:St) (acc:List Foot),B0j P call qf N ops l s acc K=some res→(∀k o,l[k]?=some o→ops[i+k]?=some o) →
  ∃(items:List It) (s':St),K s' (acc++items.map It.foot)=some res∧(∀u,Sub s.u u→∃u',E0c P N ops items u u'∧Sub s'.u u')∧items.length=l.length ∧
   (∀(k:Nat) (it:It),items[k]?=some it→it.i=i+k)∧U0g s.lo items s'.lo∧s'.hi=s.hi∧J0v s s'∧(l.any (E1c qf)=false→s'.lo=s.lo)
 | [],i,s,acc,h,_=>⟨[],s,by simpa[B0j]using h,fun u hu=>⟨u,rfl,hu⟩,rfl,fun k it h=>by simp at h,rfl,rfl,J0v.refl s,fun _=>rfl⟩
 | o :: r,i,s,acc,h,hops=>by
  simp only[B0j]at h
  obtain ⟨rd,wr,h1,hg,hex⟩:=B2j hcall (hops 0 o (by simp)) h
  simp only[E1u,R3j]at h1
  split at h1
  case h_2=>cases h1
  rename_i hok
  obtain ⟨items,s',h2,h3,h4,h5,h6,h7,h8,hq⟩:=J0j hcall r (i+1) _ _ h1 (fun k o' hk=>by
   have :=hops (k+1) o' (by simpa using hk)
   rwa [show i+1+k=i+(k+1) by omega])
  simp only at h3 h6 h7
  refine ⟨⟨i,rd,wr,s.lo,s.lo+C2g (E1c qf o) s⟩ :: items,s',?_,fun u hu=>?_,by simp[h4],fun k it hk=>?_,⟨rfl,by simp,h6⟩,h7,
   J0v.trans (b:=⟨(R0m s.tmps s.heap wr).1,(R0m s.tmps s.heap wr).2,s.lo+C2g (E1c qf o) s,s.hi,s.step,X0y wr s.log⟩) ⟨fun l hl=>W0x.2 (.inr hl),fun l hl=>D1m s.tmps s.heap wr hok l fun p hp e=>hl (W0x.2 (.inl ⟨p,hp,e⟩))⟩ h8,fun ha=>by
    simp only[List.any_cons,Bool.or_eq_false_iff]at ha
    rw[hq ha.2];simp[C2g,ha.1]⟩
  ·simpa[It.foot]using h2
  ·obtain ⟨u',h9,h10⟩:=h3 (upd u wr) ((R1g _ _ wr).trans (Sub.upd hu wr))
   refine ⟨u',⟨fun x hx=>hu _ _ (hg x hx),?_,h9⟩,h10⟩
   simpa using hex
  ·cases k with
   | zero=>simp at hk;subst hk;simp
   | succ k =>
    simp at hk
    have :=h5 k it hk
    omega
def C1c(P:Program)(call:R0c β)(qf:FuncId→Bool)(N:Nat)(ops:Array Oper)(draw:Bool)(s:St)(K:St→Option β):Option β :=
 B0j P call qf N ops ops.toList s [] fun s' feet=>match ops.toList.any (E1c qf) with
  | false=>(match draw with
   | false=>K s'
   | true=>match P.follows .mixedOrders&&H1r ops.toList feet with
    | true=>K s'
    | false=>none)
  | true=>match Nat.ble s'.lo s'.hi with
   | false=>none
   | true=>(match draw with
    | false=>K s'
    | true=>match P.follows .mixedOrders&&H1r ops.toList feet with
     | true=>K s'
     | false=>none)
def A0j(N:Nat)(w0:World)(own:Nat→Prop)(σ0:Nat→Option Nat)(lo0 hi0:Nat)(s:St)(a:Act)(w:World):Prop :=
 ∃σ u,Fits N w0 own σ u a w∧Sub s.u u∧(∀b,s.lo≤b→b<s.hi→σ b=none)∧Le σ0 σ∧(∀b,σ0 b=none→(b<lo0∨hi0≤b)→σ b=none)∧lo0≤s.lo∧s.hi≤hi0
inductive Ex where
 | normal | exit (id:Nat) | ret
def Ex.to:Ex→Exit
 | .normal=>.normal
 | .exit id=>.exit id
 | .ret=>.ret
def A0b(P:Program)(N:Nat)(c:Code)(s:St)(e:Ex)(s':St):Prop :=
 ∀w0 own σ0 lo0 hi0 a w,A0j N w0 own σ0 lo0 hi0 s a w→∀Q:Exit→Act→World→Prop,(∀a' w',A0j N w0 own σ0 lo0 hi0 s' a' w'→Q e.to a' w')→c.wp P Q a w
theorem C1d{P:Program}{call:R0c β}{qf:FuncId→Bool}{N:Nat}{ops:Array Oper}{draw:Bool}(hcall:D0t P call){s:St}{K:St→Option β}{res:β}(h:C1c P call qf N ops draw s K=some res)(id:Nat) :
  ∃s',K s'=some res∧A0b P N (.region id ops draw) s .normal s'∧J0v s s':=by
 unfold C1c at h
 have key:∃(items:List It) (s':St),(K s'=some res∧(draw=true→P.follows .mixedOrders=true∧H1r ops.toList (items.map It.foot)=true))∧(∀u,Sub s.u u→∃u',E0c P N ops items u u'∧Sub s'.u u')∧items.length=ops.toList.length ∧
   (∀(k:Nat) (it:It),items[k]?=some it→it.i=k)∧U0g s.lo items s'.lo∧s'.hi=s.hi∧J0v s s'∧(s'.lo≤s'.hi∨s'.lo=s.lo):=by
  obtain ⟨items,s',h1,h2,h3,h4,h5,h6,h7,h8⟩:=J0j hcall ops.toList 0 s [] h (fun k o hk=>by simpa using hk)
  have h4':∀(k:Nat) (it:It),items[k]?=some it→it.i=k:=fun k it hk=>by have :=h4 k it hk;omega
  split at h1
  ·rename_i hq
   split at h1
   ·exact ⟨items,s',⟨h1,by simp⟩,h2,h3,h4',h5,h6,h7,.inr (h8 hq)⟩
   ·split at h1
    ·rename_i hc
     simp only[Bool.and_eq_true]at hc
     exact ⟨items,s',⟨h1,fun _=>⟨hc.1,by simpa using hc.2⟩⟩,h2,h3,h4',h5,h6,h7,.inr (h8 hq)⟩
    ·cases h1
  ·split at h1
   ·cases h1
   ·rename_i hle
    have hle:=Nat.le_of_ble_eq_true hle
    split at h1
    ·exact ⟨items,s',⟨h1,by simp⟩,h2,h3,h4',h5,h6,h7,.inl hle⟩
    ·split at h1
     ·rename_i hc
      simp only[Bool.and_eq_true]at hc
      exact ⟨items,s',⟨h1,fun _=>⟨hc.1,by simpa using hc.2⟩⟩,h2,h3,h4',h5,h6,h7,.inl hle⟩
     ·cases h1
 obtain ⟨items,s',⟨h1,hdraw⟩,h2,h3,hix,hrange,h6,hlog,hle⟩:=key
 have hitem:=hrange.bounds
 have hfin:∀w0 own σ0 lo0 hi0 a w,A0j N w0 own σ0 lo0 hi0 s a w→∃σ u u',Fits N w0 own σ u a w∧E0c P N ops items u u'∧R1k items σ ∧
   (∀σ' a' w',Le σ σ'→Out items σ σ'→Fits N w0 own σ' u' a' w'→A0j N w0 own σ0 lo0 hi0 s' a' w'):=by
  intro w0 own σ0 lo0 hi0 a w ⟨σ,u,hf,hs,hn,hle0,hout,hlo,hhi⟩
  obtain ⟨u',hc,hs'⟩:=h2 u hs
  refine ⟨σ,u,u',hf,hc,fun it hit b hb1 hb2=>?_,fun σ' a' w' k1 k2 k3=>?_⟩
  ·have :=hitem.2 it hit
   exact hn b (by omega) (by omega)
  ·refine ⟨σ',u',k3,hs',fun b hb1 hb2=>?_,hle0.trans k1,fun b hb hb'=>?_,by omega,by omega⟩
   ·refine k2 b (hn b (by omega) (by omega)) fun it hit=>?_
    have :=hitem.2 it hit
    omega
   ·refine k2 b (hout b hb hb') fun it hit=>?_
    have :=hitem.2 it hit
    omega
 have hap:=hrange.apart
 have hlen:items.length=ops.size:=by simpa using h3
 refine ⟨s',h1,fun w0 own σ0 lo0 hi0 a w hst Q hQ=>?_,hlog⟩
 obtain ⟨σ,u,u',k1,k2,k3,k4⟩:=hfin w0 own σ0 lo0 hi0 a w hst
 cases draw with
 | false =>
  refine wp_region ?_
  have:List.range ops.size=items.map (·.i):=by
   apply List.ext_getElem
   ·simp[hlen]
   ·intro k hk1 hk2
    simp only[List.getElem_range,List.getElem_map]
    exact (hix k _ (List.getElem?_eq_getElem (by simpa using hk2))).symm
  rw[this]
  exact M1v items u u' σ a w k2 k1 k3 hap fun σ' a' w' j1 j2 j3=>hQ a' w' (k4 σ' a' w' j1 j2 j3)
 | true =>
  obtain ⟨hc1,hc2⟩:=hdraw rfl
  exact wp_region_any hc1 (D1y hlen hix hc2 k2 k1.drew k3 hap fun σ' a' w' j1 j2 j3=>hQ a' w' (k4 σ' a' w' j1 j2 j3))
def Y1d(b:Bool):Value→Value→Option Value
 | .int k p,.int k' q=>match decide (k=k') with | true=>some (.int k (cond b p q)) | false=>none
 | .bool p,.bool q=>some (.bool (cond b p q))
 | .string p,.string q=>some (.string (cond b p q))
 | _,_=>none
def T0p(b:Bool):List Value→List Value→Option (List Value)
 | [],[]=>some []
 | v :: vs,w :: ws=>match Y1d b v w,T0p b vs ws with | some x,some r=>some (x :: r) | _,_=>none
 | _,_=>none
def P1g(b:Bool):AV→AV→AV
 | .val (.agg ⟨l⟩),.val (.agg ⟨m⟩)=>match T0p b l m with | some r=>.val (.agg ⟨r⟩) | none=>.any
 | .val v,.val w=>match Y1d b v w with | some x=>.val x | none=>.any
 | .ptr x i,.ptr y j=>match Nat.beq x y&&Nat.beq i j with | true=>.ptr x i | false=>.any
 | _,_=>.any
def T0n(b:Bool):List AV→List AV→Option (List AV)
 | [],[]=>some []
 | v :: vs,w :: ws=>match T0n b vs ws with | some r=>some (P1g b v w :: r) | _=>none
 | _,_=>none
def L2c(b:Bool):Con→Con→Option Con
 | .row e l,.row e' m=>match Nat.beq e e',T0n b l m with | true,some r=>some (.row e r) | _,_=>none
 | _,_=>none
theorem P1j{b:Bool}{v w x:Value}(h:Y1d b v w=some x):x=cond b v w:=by
 cases v<;>cases w<;>simp only[Y1d,reduceCtorEq,Option.some.injEq]at h
 ·subst h;cases b<;>rfl
 ·split at h
  ·rename_i hk;have hk:=of_decide_eq_true hk;subst hk;cases h;cases b<;>rfl
  ·cases h
 ·subst h;cases b<;>rfl
theorem G1e{b:Bool}:∀{v w x:List Value},T0p b v w=some x→x=cond b v w
 | [],[],x,h=>by simp only[T0p,Option.some.injEq]at h;subst h;cases b<;>rfl
 | v :: vs,w :: ws,x,h=>by
  simp only[T0p]at h
  split at h
  ·rename_i y r hy hr
   cases h
   rw[P1j hy,G1e hr]
   cases b<;>rfl
  ·cases h
 | [],_ :: _,x,h=>by simp[T0p]at h
 | _ :: _,[],x,h=>by simp[T0p]at h
theorem Q0w{σ:Nat→Option Nat}{b:Bool}{v w:AV}{x:Value}(h:Rel σ (cond b v w) x):Rel σ (P1g b v w) x:=by
 unfold P1g
 split
 ·split
  ·rename_i l m r hr
   have :=G1e hr
   subst this
   cases b<;>simpa only[Rel,cond]using h
  ·simp only[Rel]
 ·split
  ·rename_i y hy
   have :=P1j hy
   subst this
   cases b<;>simpa only[Rel,cond]using h
  ·simp only[Rel]
 ·split
  ·rename_i hb
   simp only[Bool.and_eq_true]at hb
   have h1:=Nat.eq_of_beq_eq_true hb.1
   have h2:=Nat.eq_of_beq_eq_true hb.2
   subst h1 h2
   cases b<;>simpa only[cond]using h
  ·simp only[Rel]
 ·simp only[Rel]
theorem L0n{σ:Nat→Option Nat}{b:Bool}:∀{v w r:List AV} {x:List Value},T0n b v w=some r→Rels σ (cond b v w) x→Rels σ r x
 | [],[],r,x,h,k=>by simp only[T0n,Option.some.injEq]at h;subst h;cases b<;>simpa only[cond]using k
 | v :: vs,w :: ws,r,x,h,k=>by
  simp only[T0n]at h
  split at h
  ·rename_i q hq
   cases h
   cases b with
   | true =>
    simp only[cond,Rels]at k ⊢
    obtain ⟨y,ys,h1,h2,h3⟩:=k
    exact ⟨y,ys,h1,Q0w (b:=true) h2,L0n (b:=true) hq h3⟩
   | false =>
    simp only[cond,Rels]at k ⊢
    obtain ⟨y,ys,h1,h2,h3⟩:=k
    exact ⟨y,ys,h1,Q0w (b:=false) h2,L0n (b:=false) hq h3⟩
  ·cases h
 | [],_ :: _,_,_,h,_=>by simp[T0n]at h
 | _ :: _,[],_,_,h,_=>by simp[T0n]at h
def WkC:Con→Con→Prop
 | .av a,.av a'=>∀σ v,Rel σ a v→Rel σ a' v
 | .row e cs,.row e' cs'=>e=e'∧∀σ vs,Rels σ cs vs→Rels σ cs' vs
 | .obj o,.obj o'=>o=o'
 | _,_=>False
theorem WkC.refl(c:Con):WkC c c:=by
 cases c with
 | av a=>exact fun _ _ h=>h
 | row e cs=>exact ⟨rfl,fun _ _ h=>h⟩
 | obj o=>exact rfl
def Wk(u' u:U):Prop:=∀l c',u' l=some c'→∃c,u l=some c∧WkC c c'
theorem Fits.weak{N:Nat}{w0:World}{own:Nat→Prop}{σ:Nat→Option Nat}{u u':U}{a:Act}{w:World}(h:Fits N w0 own σ u a w)(hs:Wk u' u):Fits N w0 own σ u' a w:=by
 refine {h with tmp:=fun t v k=>?_,row:=fun b e cs k=>?_,obj:=fun b o k=>?_,ownsR:=fun b e cs r k hr=>?_,ownsO:=fun b o r k hr=>?_}
 ·obtain ⟨c,h1,h2⟩:=hs _ _ k
  cases c with
  | av a=>obtain ⟨x,h3,h4⟩:=h.tmp t a h1;exact ⟨x,h3,h2 _ _ h4⟩
  | row e cs=>exact h2.elim
  | obj o=>exact h2.elim
 ·obtain ⟨c,h1,h2⟩:=hs _ _ k
  cases c with
  | av a=>exact h2.elim
  | row e' cs' =>
   obtain ⟨rfl,h2⟩:=h2
   obtain ⟨r,vs,h3,h4,h5⟩:=h.row b _ cs' h1
   exact ⟨r,vs,h3,h4,h2 _ _ h5⟩
  | obj o=>exact h2.elim
 ·obtain ⟨c,h1,h2⟩:=hs _ _ k
  cases c with
  | av a=>exact h2.elim
  | row e' cs'=>exact h2.elim
  | obj o'=>have h2:o'=o:=h2;subst h2;exact h.obj b _ h1
 ·obtain ⟨c,h1,h2⟩:=hs _ _ k
  cases c with
  | av a=>exact h2.elim
  | row e' cs'=>exact h.ownsR b _ cs' r h1 hr
  | obj o=>exact h2.elim
 ·obtain ⟨c,h1,h2⟩:=hs _ _ k
  cases c with
  | av a=>exact h2.elim
  | row e' cs'=>exact h2.elim
  | obj o'=>exact h.ownsO b _ r h1 hr
def J0t:List Loc→Loc→Bool
 | [],_=>false
 | x :: r,l=>match P1c x l with | true=>true | false=>J0t r l
theorem A2p{a b:Loc}(h:P1c a b=true):a=b:=by
 cases a<;>cases b<;>simp[P1c]at h<;>rw[h]
theorem W0u{l:Loc}:∀{ls:List Loc},J0t ls l=true↔l∈ls
 | []=>by simp[J0t]
 | x :: r=>by
  simp only[J0t]
  split
  ·rename_i e;simp[A2p e]
  ·rename_i e
   rw[W0u]
   have :=G1b e
   simp[Ne.symm this]
def G1d(b:Bool)(ls:List Loc)(tx ty:List AV):Nat→List AV→List AV
 | _,[]=>[]
 | t,a :: r=>(match J0t ls (.tmp t) with
  | true=>match tx[t]?,ty[t]? with | some x,some y=>P1g b x y | _,_=>.any
  | false=>a) :: G1d b ls tx ty (t+1) r
theorem W0y(b:Bool)(ls:List Loc)(tx ty:List AV):∀(l:List AV) (t i:Nat),(G1d b ls tx ty t l)[i]?=(l[i]?).map fun a=>match J0t ls (.tmp (t+i)) with
  | true=>match tx[t+i]?,ty[t+i]? with | some x,some y=>P1g b x y | _,_=>.any
  | false=>a
 | [],t,i=>by simp[G1d]
 | a :: r,t,0=>by simp[G1d]
 | a :: r,t,i+1=>by
  simp only[G1d,List.getElem?_cons_succ]
  rw[W0y b ls tx ty r (t+1) i]
  rw[show t+1+i=t+(i+1) by omega]
def R0q(b:Bool)(ls:List Loc)(hx hy:Hp):Hp→Hp
 | []=>[]
 | (n,c) :: r=>match J0t ls (.blk n) with
  | true=>match hget hx n,hget hy n with
   | some x,some y=>match L2c b x y with | some z=>(n,z) :: R0q b ls hx hy r | none=>R0q b ls hx hy r
   | _,_=>R0q b ls hx hy r
  | false=>(n,c) :: R0q b ls hx hy r
theorem P1h(b:Bool)(ls:List Loc)(hx hy:Hp){n:Nat}(hn:J0t ls (.blk n)=false):∀(l:Hp),hget (R0q b ls hx hy l) n=hget l n
 | []=>rfl
 | (m,c) :: r=>by
  simp only[R0q,hget]
  by_cases e:m=n
  ·subst e
   rw[hn]
   simp[hget]
  ·have h2:Nat.beq m n=false:=by
    cases hb:Nat.beq m n with
    | false=>rfl
    | true=>exact absurd (Nat.eq_of_beq_eq_true hb) e
   rw[h2]
   simp only
   have ih:=P1h b ls hx hy hn r
   split
   ·split
    ·split
     ·simp only[hget,h2];exact ih
     ·exact ih
    ·exact ih
   ·simp only[hget,h2];exact ih
theorem M0r(b:Bool)(ls:List Loc)(hx hy:Hp){n:Nat}{z:Con}(hn:J0t ls (.blk n)=true):∀{l:Hp},hget (R0q b ls hx hy l) n=some z→∃x y,hget hx n=some x∧hget hy n=some y∧L2c b x y=some z
 | [],h=>by simp[R0q,hget]at h
 | (m,c) :: r,h=>by
  simp only[R0q]at h
  split at h
  ·split at h
   ·rename_i x y h1 h2
    split at h
    ·rename_i z' hz
     simp only[hget]at h
     split at h
     ·rename_i e
      have e:=Nat.eq_of_beq_eq_true e
      subst e
      cases h
      exact ⟨x,y,h1,h2,hz⟩
     ·exact M0r b ls hx hy hn h
    ·exact M0r b ls hx hy hn h
   ·exact M0r b ls hx hy hn h
  ·rename_i hm
   simp only[hget]at h
   split at h
   ·rename_i e
    have e:=Nat.eq_of_beq_eq_true e
    subst e
    rw[hn]at hm;cases hm
   ·exact M0r b ls hx hy hn h
def H0u(b:Bool)(s sx sy:St):St :=
 {tmps:=G1d b (sx.log++sy.log) sx.tmps sy.tmps 0 s.tmps,heap:=R0q b (sx.log++sy.log) sx.heap sy.heap s.heap,lo:=Nat.max sx.lo sy.lo,hi:=s.hi,step:=s.step,log:=sx.log++(sy.log++s.log)}
theorem V0b(b:Bool)(s sx sy:St){l:Loc}(hn:l ∉ sx.log++sy.log):(H0u b s sx sy).u l=s.u l:=by
 have hl:J0t (sx.log++sy.log) l=false:=by
  cases hh:J0t (sx.log++sy.log) l with
  | false=>rfl
  | true=>exact absurd (W0u.1 hh) hn
 cases l with
 | tmp t =>
  simp only[St.u,H0u,stU,W0y,Nat.zero_add,hl]
  simp
 | blk n =>
  simp only[St.u,H0u,stU,P1h b _ _ _ hl]
theorem G1c(b:Bool)(s sx sy:St)(hlx:sx.tmps.length=s.tmps.length)(hly:sy.tmps.length=s.tmps.length)(hb:∀l,l ∉ (cond b sx sy).log→(cond b sx sy).u l=s.u l):Wk (H0u b s sx sy).u (cond b sx sy).u:=by
 intro l c' h
 cases hl:J0t (sx.log++sy.log) l with
 | false =>
  have hn:l ∉ sx.log++sy.log:=fun hm=>by rw[W0u.2 hm]at hl;cases hl
  have hs:s.u l=some c':=by rw[← V0b b s sx sy hn];exact h
  simp only[List.mem_append,not_or]at hn
  refine ⟨c',?_,WkC.refl c'⟩
  rw[hb l (by cases b;exact hn.2;exact hn.1)]
  exact hs
 | true =>
  cases l with
  | tmp t =>
   simp only[St.u,H0u,stU,W0y,Nat.zero_add,hl]at h
   cases hst:s.tmps[t]? with
   | none=>simp[hst]at h
   | some a0 =>
    simp only[hst,Option.map_some,Option.some.injEq]at h
    split at h
    ·rename_i x y h1 h2
     subst h
     cases b with
     | true=>exact ⟨.av x,by simp[St.u,stU,h1],fun σ v hr=>Q0w (b:=true) hr⟩
     | false=>exact ⟨.av y,by simp[St.u,stU,h2],fun σ v hr=>Q0w (b:=false) hr⟩
    ·rename_i hno
     exfalso
     have hlt:=(List.getElem?_eq_some_iff.1 hst).1
     exact hno _ _ (List.getElem?_eq_getElem (by omega)) (List.getElem?_eq_getElem (by omega))
  | blk n =>
   simp only[St.u,H0u,stU]at h
   obtain ⟨x,y,h1,h2,h3⟩:=M0r b _ _ _ hl h
   unfold L2c at h3
   split at h3
   ·rename_i e l1 e' l2
    split at h3
    ·rename_i r he hr
     have he:=Nat.eq_of_beq_eq_true he
     subst he
     cases h3
     cases b with
     | true=>exact ⟨_,h1,rfl,fun σ vs hv=>L0n (b:=true) hr hv⟩
     | false=>exact ⟨_,h2,rfl,fun σ vs hv=>L0n (b:=false) hr hv⟩
    ·cases h3
   ·cases h3
abbrev Y0r:=(β:Type)→R0c β
def Z2v(A:List FuncId)(o:Oper):Bool :=
 match o.guard with
 | some _=>false
 | none=>match o.op with
  | .call c=>match c.callee with | .value (.func f)=>hasN A f | .builtin _=>true | _=>false
  | _=>true
def C1r(A:List FuncId):Code→Bool
 | .skip=>true
 | .region _ ops _=>ops.toList.all (Z2v A)
 | .seq x y=>C1r A x&&C1r A y
 | .cond _ x y=>C1r A x&&C1r A y
 | .block _ c=>C1r A c
 | _=>false
inductive HTr where
 | ret (s:St)
 | no
 | test (b:Bool) (t e:HTr)
def HTr.sel:HTr→Option St
 | .ret s=>some s
 | .no=>none
 | .test b t e=>cond b t.sel e.sel
def HTr.fold(K:St→Option β):HTr→Option β
 | .ret s=>K s
 | .no=>none
 | .test b t e=>cond b (t.fold K) (e.fold K)
theorem HTr.fold_sel(K:St→Option β):∀t:HTr,t.fold K=match t.sel with | some s=>K s | none=>none
 | .ret _=>rfl
 | .no=>rfl
 | .test b t e=>by
  simp only[HTr.fold,HTr.sel]
  cases b
  ·exact HTr.fold_sel K e
  ·exact HTr.fold_sel K t
abbrev M0e:=List (Nat×(St→HTr))
def W0r:M0e→Nat→Option (St→HTr)
 | [],_=>none
 | (g,h) :: r,f=>match Nat.beq g f with | true=>some h | false=>W0r r f
structure Way where
 merge:Option (List FuncId):=none
 quiet:FuncId→Bool:=fun _=>false
def W2n(wy:Way)(x y:Code):Bool:=match wy.merge with | some A=>C1r A x&&C1r A y | none=>false
def run(P:Program)(call:Y0r)(N:Nat)(wy:Way)(hB:M0e):Nat→(β:Type)→Code→St→(Ex→St→Option β)→Option β
 | 0,_,_,_,_=>none
 | n+1,β,c,s,K=>match c with
  | .skip=>K .normal s
  | .label _=>K .normal s
  | .region _ ops draw=>C1c P (call β) wy.quiet N ops draw s (K .normal)
  | .seq x y=>run P call N wy hB n β x s fun e s'=>match e with
   | .normal=>run P call N wy hB n β y s' K
   | .exit id=>K (.exit id) s'
   | .ret=>K .ret s'
  | .cond c x y=>match opd s.tmps c with
   | some (.val (.bool b))=>match W2n wy x y with
    | false=>cond b (run P call N wy hB n β x {s with tmps:=conc s.tmps c true} K) (run P call N wy hB n β y {s with tmps:=conc s.tmps c false} K)
    | true=>match run P call N wy hB n St x {s with tmps:=conc s.tmps c true,log:=[]} (fun e s'=>match e with | .normal=>some s' | _=>none),
      run P call N wy hB n St y {s with tmps:=conc s.tmps c false,log:=[]} (fun e s'=>match e with | .normal=>some s' | _=>none) with
     | some sx,some sy=>match Nat.beq sx.tmps.length s.tmps.length&&Nat.beq sy.tmps.length s.tmps.length&&(Nat.beq sx.hi s.hi&&Nat.beq sy.hi s.hi)&&(Nat.ble s.lo sx.lo&&Nat.ble s.lo sy.lo) with
      | true=>A1c (H0u b s sx sy).tmps fun tmps=>Y0e (H0u b s sx sy).heap fun heap=>U0r (H0u b s sx sy).lo fun lo=>Y0e (H0u b s sx sy).log fun log=>K .normal ⟨tmps,heap,lo,s.hi,s.step,log⟩
      | false=>none
     | _,_=>cond b (run P call N wy hB n β x {s with tmps:=conc s.tmps c true} K) (run P call N wy hB n β y {s with tmps:=conc s.tmps c false} K)
   | _=>none
  | .block id c=>match W0r hB id with
   | some h=>(h s).fold (K .normal)
   | none=>run P call N wy hB n β c s fun e s'=>match e with
    | .normal=>K .normal s'
    | .exit id'=>(match Nat.beq id' id with | true=>K .normal s' | false=>K (.exit id') s')
    | .ret=>K .ret s'
  | .loop c=>run P call N wy hB n β c s fun e s'=>match e with
   | .normal=>run P call N wy hB n β (.loop c) s' K
   | .exit id=>K (.exit id) s'
   | .ret=>K .ret s'
  | .exit id=>K (.exit id) s
  | .ret=>K .ret s
  | _=>none
def HFit(P:Program)(N:Nat)(hB:M0e):Code→Prop
 | .seq a b=>HFit P N hB a∧HFit P N hB b
 | .cond _ a b=>HFit P N hB a∧HFit P N hB b
 | .block id c=>HFit P N hB c∧∀h,W0r hB id=some h→∀s s',(h s).sel=some s'→A0b P N (.block id c) s .normal s'∧J0v s s'
 | .loop c=>HFit P N hB c
 | _=>True
theorem HFit.nil{P:Program}{N:Nat}:∀c:Code,HFit P N [] c
 | .seq a b=>⟨HFit.nil a,HFit.nil b⟩
 | .cond _ a b=>⟨HFit.nil a,HFit.nil b⟩
 | .block id c=>⟨HFit.nil c,fun h hh=>by simp[W0r]at hh⟩
 | .loop c=>HFit.nil c
 | .skip | .region .. | .rangeFunc .. | .exit _ | .scope _ | .label _ | .goto _ | .ret | .refuse _=>trivial
def C0n:Code→List (Nat×Code)
 | .seq a b=>C0n a++C0n b
 | .cond _ a b=>C0n a++C0n b
 | .block id c=>(id,c) :: C0n c
 | .loop c=>C0n c
 | _=>[]
theorem HFit.of{P:Program}{N:Nat}{hB:M0e}:∀{c:Code},(∀p∈C0n c,∀h,W0r hB p.1=some h→∀s s',(h s).sel=some s'→A0b P N (.block p.1 p.2) s .normal s'∧J0v s s')→HFit P N hB c
 | .seq a b,h=>⟨HFit.of fun p hp=>h p (by simp[C0n,hp]),HFit.of fun p hp=>h p (by simp[C0n,hp])⟩
 | .cond _ a b,h=>⟨HFit.of fun p hp=>h p (by simp[C0n,hp]),HFit.of fun p hp=>h p (by simp[C0n,hp])⟩
 | .block id c,h=>⟨HFit.of fun p hp=>h p (by simp[C0n,hp]),h (id,c) (by simp[C0n])⟩
 | .loop c,h=>HFit.of (c:=c) fun p hp=>h p (by simpa[C0n]using hp)
 | .skip,_ | .region ..,_ | .rangeFunc ..,_ | .exit _,_ | .scope _,_ | .label _,_ | .goto _,_ | .ret,_ | .refuse _,_=>trivial
theorem A0j.bool{N:Nat}{w0:World}{own:Nat→Prop}{σ0:Nat→Option Nat}{lo0 hi0:Nat}{s:St}{a:Act}{w:World}(h:A0j N w0 own σ0 lo0 hi0 s a w){c:Operand}{v:Value}(hc:opd s.tmps c=some (.val v)):a.eval c=v:=by
 obtain ⟨σ,u,hf,hs,_⟩:=h
 have :=A0n hf (tmps:=s.tmps) (x:=c) (fun p hp=>hs _ _ (N1r s.tmps s.heap c p hp)) hc
 simpa only[Rel]using this
theorem A0j.weak{N:Nat}{w0:World}{own:Nat→Prop}{σ0:Nat→Option Nat}{lo0 hi0:Nat}{s s':St}{a:Act}{w:World}(h:A0j N w0 own σ0 lo0 hi0 s a w)(hw:Wk s'.u s.u)(hlo:s.lo≤s'.lo)(hhi:s'.hi≤s.hi):A0j N w0 own σ0 lo0 hi0 s' a w:=by
 obtain ⟨σ,u,hf,hs,h1,h2,h3,h4,h5⟩:=h
 exact ⟨σ,s'.u,(hf.sub hs).weak hw,Sub.refl _,fun b hb1 hb2=>h1 b (by omega) (by omega),h2,h3,by omega,by omega⟩
def R1q(P:Program)(N:Nat)(n:Nat)(c:Code)(s:St)(e:Ex)(s':St):Prop :=
 ∀w0 own σ0 lo0 hi0 a w,A0j N w0 own σ0 lo0 hi0 s a w→∀Q:Exit→Act→World→Prop,(∀a' w',A0j N w0 own σ0 lo0 hi0 s' a' w'→Q e.to a' w')→Code.rounds P c Q n a w
theorem Q0n{P:Program}{call:Y0r}{N:Nat}{wy:Way}{hB:M0e}(hcall:∀β,D0t P (call β)):∀(n:Nat),
  (∀(β:Type) (res:β) (c:Code) (s:St) (K:Ex→St→Option β),HFit P N hB c→run P call N wy hB n β c s K=some res→∃e s',K e s'=some res∧A0b P N c s e s'∧J0v s s') ∧
  (∀(β:Type) (res:β) (c:Code) (s:St) (K:Ex→St→Option β),HFit P N hB c→run P call N wy hB n β (.loop c) s K=some res→∃e s',K e s'=some res∧R1q P N n c s e s'∧J0v s s')
 | 0=>⟨fun β res c s K _ h=>by simp[run]at h,fun β res c s K _ h=>by simp[run]at h⟩
 | n+1=>by
  obtain ⟨ih,ihl⟩:=Q0n hcall n
  have hloop:∀(β:Type) (res:β) (c:Code) (s:St) (K:Ex→St→Option β),HFit P N hB c→run P call N wy hB (n+1) β (.loop c) s K=some res→∃e s',K e s'=some res∧R1q P N (n+1) c s e s'∧J0v s s':=by
   intro β res c s K hh h
   simp only[run]at h
   obtain ⟨e,s1,h1,h2,hg⟩:=ih β res c s _ hh h
   cases e with
   | normal =>
    simp only at h1
    obtain ⟨e',s',h3,h4,hg'⟩:=ihl β res c s1 K hh h1
    refine ⟨e',s',h3,fun w0 own σ0 lo0 hi0 a w hst Q hQ=>?_,hg.trans hg'⟩
    rw[rounds_succ]
    exact h2 w0 own σ0 lo0 hi0 a w hst _ fun a' w' hst'=>h4 w0 own σ0 lo0 hi0 a' w' hst' Q hQ
   | exit id =>
    simp only at h1
    refine ⟨.exit id,s1,h1,fun w0 own σ0 lo0 hi0 a w hst Q hQ=>?_,hg⟩
    rw[rounds_succ]
    exact h2 w0 own σ0 lo0 hi0 a w hst _ fun a' w' hst'=>hQ a' w' hst'
   | ret =>
    simp only at h1
    refine ⟨.ret,s1,h1,fun w0 own σ0 lo0 hi0 a w hst Q hQ=>?_,hg⟩
    rw[rounds_succ]
    exact h2 w0 own σ0 lo0 hi0 a w hst _ fun a' w' hst'=>hQ a' w' hst'
  refine ⟨fun β res c s K hh h=>?_,hloop⟩
  cases c with
  | skip=>exact ⟨.normal,s,by simpa[run]using h,fun w0 own σ0 lo0 hi0 a w hst Q hQ=>wp_skip (hQ a w hst),J0v.refl s⟩
  | label l=>exact ⟨.normal,s,by simpa[run]using h,fun w0 own σ0 lo0 hi0 a w hst Q hQ=>wp_label (hQ a w hst),J0v.refl s⟩
  | region id ops draw =>
   simp only[run]at h
   obtain ⟨s',h1,h2,h3⟩:=C1d (hcall β) h id
   exact ⟨.normal,s',h1,h2,h3⟩
  | seq x y =>
   simp only[run]at h
   obtain ⟨e,s1,h1,h2,hg⟩:=ih β res x s _ hh.1 h
   cases e with
   | normal =>
    simp only at h1
    obtain ⟨e',s',h3,h4,hg'⟩:=ih β res y s1 K hh.2 h1
    exact ⟨e',s',h3,fun w0 own σ0 lo0 hi0 a w hst Q hQ=>wp_seq (h2 w0 own σ0 lo0 hi0 a w hst _ fun a' w' hst'=>h4 w0 own σ0 lo0 hi0 a' w' hst' Q hQ),hg.trans hg'⟩
   | exit id=>exact ⟨.exit id,s1,h1,fun w0 own σ0 lo0 hi0 a w hst Q hQ=>wp_seq (h2 w0 own σ0 lo0 hi0 a w hst _ fun a' w' hst'=>hQ a' w' hst'),hg⟩
   | ret=>exact ⟨.ret,s1,h1,fun w0 own σ0 lo0 hi0 a w hst Q hQ=>wp_seq (h2 w0 own σ0 lo0 hi0 a w hst _ fun a' w' hst'=>hQ a' w' hst'),hg⟩
  | cond c x y =>
   simp only[run]at h
   split at h
   ·rename_i b hb
    have plain:cond b (run P call N wy hB n β x {s with tmps:=conc s.tmps c true} K) (run P call N wy hB n β y {s with tmps:=conc s.tmps c false} K)=some res→∃e s',K e s'=some res∧A0b P N (.cond c x y) s e s'∧J0v s s':=by
     intro h
     cases b with
     | true =>
      rw[cond_true,J0b hb]at h
      obtain ⟨e,s',h1,h2,hg⟩:=ih β res x s K hh.1 h
      exact ⟨e,s',h1,fun w0 own σ0 lo0 hi0 a w hst Q hQ=>wp_cond_true (hst.bool hb) (h2 w0 own σ0 lo0 hi0 a w hst Q hQ),hg⟩
     | false =>
      rw[cond_false,J0b hb]at h
      obtain ⟨e,s',h1,h2,hg⟩:=ih β res y s K hh.2 h
      exact ⟨e,s',h1,fun w0 own σ0 lo0 hi0 a w hst Q hQ=>wp_cond_false (hst.bool hb) (h2 w0 own σ0 lo0 hi0 a w hst Q hQ),hg⟩
    split at h
    ·exact plain h
    ·split at h
     ·rename_i sx sy hx hy
      split at h
      ·rename_i hlen
       rw[W0t,M0n,K0p,M0n]at h
       simp only[Bool.and_eq_true]at hlen
       have l1:=Nat.eq_of_beq_eq_true hlen.1.1.1
       have l2:=Nat.eq_of_beq_eq_true hlen.1.1.2
       have l3:=Nat.eq_of_beq_eq_true hlen.1.2.1
       have l4:=Nat.eq_of_beq_eq_true hlen.1.2.2
       have l5:=Nat.le_of_ble_eq_true hlen.2.1
       have l6:=Nat.le_of_ble_eq_true hlen.2.2
       refine ⟨.normal,H0u b s sx sy,h,?_,fun l hl=>by simp[H0u,hl],fun l hl=>V0b b s sx sy fun hm=>hl (by simp only[H0u];simp only[List.mem_append]at hm ⊢;rcases hm with h | h;exact .inl h;exact .inr (.inl h))⟩
       intro w0 own σ0 lo0 hi0 a w hst Q hQ
       cases b with
       | true =>
        rw[J0b hb]at hx
        obtain ⟨e,s1,h1,h2,hg⟩:=ih St sx x _ _ hh.1 hx
        cases e<;>simp only[Option.some.injEq,reduceCtorEq]at h1
        subst h1
        refine wp_cond_true (hst.bool hb) (h2 w0 own σ0 lo0 hi0 a w hst _ fun a' w' hst'=>hQ a' w' ?_)
        exact hst'.weak (G1c true s s1 sy l1 l2 hg.2) (Nat.le_max_left _ _) (by show s.hi≤s1.hi;omega)
       | false =>
        rw[J0b hb]at hy
        obtain ⟨e,s1,h1,h2,hg⟩:=ih St sy y _ _ hh.2 hy
        cases e<;>simp only[Option.some.injEq,reduceCtorEq]at h1
        subst h1
        refine wp_cond_false (hst.bool hb) (h2 w0 own σ0 lo0 hi0 a w hst _ fun a' w' hst'=>hQ a' w' ?_)
        exact hst'.weak (G1c false s sx s1 l1 l2 hg.2) (Nat.le_max_right _ _) (by show s.hi≤s1.hi;omega)
      ·cases h
     ·exact plain h
   ·cases h
  | block id c =>
   simp only[run]at h
   split at h
   ·rename_i hint hfind
    rw[HTr.fold_sel]at h
    split at h
    ·rename_i s' hs'
     obtain ⟨h1,h2⟩:=hh.2 hint hfind s s' hs'
     exact ⟨.normal,s',h,h1,h2⟩
    ·cases h
   ·obtain ⟨e,s1,h1,h2,hg⟩:=ih β res c s _ hh.1 h
    cases e with
    | normal=>exact ⟨.normal,s1,h1,fun w0 own σ0 lo0 hi0 a w hst Q hQ=>wp_block (h2 w0 own σ0 lo0 hi0 a w hst _ fun a' w' hst'=>hQ a' w' hst'),hg⟩
    | ret=>exact ⟨.ret,s1,h1,fun w0 own σ0 lo0 hi0 a w hst Q hQ=>wp_block (h2 w0 own σ0 lo0 hi0 a w hst _ fun a' w' hst'=>hQ a' w' hst'),hg⟩
    | exit id' =>
     simp only at h1
     split at h1
     ·rename_i e
      have e:=Nat.eq_of_beq_eq_true e
      subst e
      exact ⟨.normal,s1,h1,fun w0 own σ0 lo0 hi0 a w hst Q hQ=>wp_block (h2 w0 own σ0 lo0 hi0 a w hst _ fun a' w' hst'=>by simp only[Ex.to,Exit.inBlock,if_true];exact hQ a' w' hst'),hg⟩
     ·rename_i e
      have e:id'≠id:=fun e'=>by subst e';simp at e
      exact ⟨.exit id',s1,h1,fun w0 own σ0 lo0 hi0 a w hst Q hQ=>wp_block (h2 w0 own σ0 lo0 hi0 a w hst _ fun a' w' hst'=>by simp only[Ex.to,Exit.inBlock,if_neg e];exact hQ a' w' hst'),hg⟩
  | loop c =>
   obtain ⟨e,s',h1,h2,hg⟩:=hloop β res c s K hh h
   exact ⟨e,s',h1,fun w0 own σ0 lo0 hi0 a w hst Q hQ=>wp_loop_rounds (n+1) (h2 w0 own σ0 lo0 hi0 a w hst Q hQ),hg⟩
  | exit id=>exact ⟨.exit id,s,by simpa[run]using h,fun w0 own σ0 lo0 hi0 a w hst Q hQ=>wp_exit (hQ a w hst),J0v.refl s⟩
  | ret=>exact ⟨.ret,s,by simpa[run]using h,fun w0 own σ0 lo0 hi0 a w hst Q hQ=>wp_ret (hQ a w hst),J0v.refl s⟩
  | _=>simp[run]at h
end Go.Ab
namespace Go.Ab
variable {β:Type}
def resA(P:Program)(s:St):List ResultVar→Option (List AV)
 | []=>some []
 | .tmp t :: r=>match s.tmps[t]?,resA P s r with
  | some a,some l=>some (a :: l)
  | _,_=>none
 | .cell t ty :: r=>match s.tmps[t]? with
  | some (.ptr b off)=>match hget s.heap b with
   | some (.row _ cs)=>match W2m P ty cs off,resA P s r with
    | some a,some l=>some (a :: l)
    | _,_=>none
   | _=>none
  | _=>none
def pack:List AV→AV
 | [a]=>a
 | l=>match D0v l with | some vs=>.val (.tuple (List.toArray vs)) | none=>.tuple l
theorem Y2j{σ:Nat→Option Nat}{as:List AV}{vs:List Value}(h:Rels σ as vs)(hl:as.length≠1):Rel σ (pack as) (.tuple (List.toArray vs)):=by
 have key:Rel σ (match D0v as with | some vs=>AV.val (.tuple (List.toArray vs)) | none=>.tuple as) (.tuple (List.toArray vs)):=by
  split
  ·rename_i l e;simp only[Rel];rw[P0k e h]
  ·simp only[Rel];exact ⟨vs,rfl,h⟩
 match as,hl with
 | [],_=>exact key
 | [_],hl=>exact absurd rfl hl
 | _ :: _ :: _,_=>exact key
def Y1t(tmps:Array Value):ResultVar→Sem Value
 | .tmp t=>pure (tmps.getD t undef)
 | .cell x t=>do loadVar t (← asAddr (tmps.getD x undef))
theorem L1j{P:Program}{N:Nat}{w0:World}{own:Nat→Prop}{σ:Nat→Option Nat}{u:U}{a:Act}{w:World}(hf:Fits N w0 own σ u a w){s:St}(hs:Sub s.u u) :
  ∀(l:List ResultVar) (as:List AV),resA P s l=some as→∃vs:List Value,(l.mapM (Y1t a.tmps)).run P w=.ok vs w∧Rels σ as vs
 | [],as,h=>by
  simp[resA]at h;subst h
  exact ⟨[],by simp,by simp[Rels]⟩
 | .tmp t :: r,as,h=>by
  simp only[resA]at h
  split at h
  ·rename_i x l hx hl
   cases h
   obtain ⟨vs,h1,h2⟩:=L1j hf hs r l hl
   obtain ⟨v,hv,hrel⟩:=hf.tmp t x (hs _ _ (by simp[St.u,stU,hx]))
   refine ⟨v :: vs,?_,by simp only[Rels];exact ⟨v,vs,rfl,hrel,h2⟩⟩
   simp only[List.mapM_cons,Y1t,Sem.run_bind,Sem.run_pure,Result.andThen_ok,h1]
   simp[hv]
  ·cases h
 | .cell t ty :: r,as,h=>by
  simp only[resA]at h
  split at h
  ·rename_i b off hx
   split at h
   ·rename_i e cs hb
    split at h
    ·rename_i x l hld hl
     cases h
     obtain ⟨vs,h1,h2⟩:=L1j hf hs r l hl
     obtain ⟨v,hv,hrel⟩:=hf.tmp t _ (hs _ _ (by simp[St.u,stU,hx];rfl))
     simp only[Rel]at hrel
     obtain ⟨rr,hr1,rfl⟩:=hrel
     obtain ⟨r2,vs2,hr2,hheap,hrels⟩:=hf.row b e cs (hs _ _ (by simp[St.u,stU,hb]))
     rw[hr1]at hr2
     cases hr2
     obtain ⟨y,hy,hrel⟩:=P1b hld hheap hrels
     refine ⟨y :: vs,?_,by simp only[Rels];exact ⟨y,vs,rfl,hrel,h2⟩⟩
     have e1:a.tmps.getD t undef=.pointer (some ⟨rr,off,none⟩):=by simp[hv]
     have hh:(do loadVar ty (← asAddr (a.tmps.getD t undef)):Sem Value).run P w=.ok y w:=by
      rw[Sem.run_bind,e1]
      simp only[asAddr,Sem.run_pure,Result.andThen_ok,hy]
     have hh:(Y1t a.tmps (.cell t ty)).run P w=.ok y w:=hh
     rw[List.mapM_cons,Sem.run_bind,hh]
     simp only[Result.andThen_ok]
     rw[Sem.run_bind,h1]
     rfl
    ·cases h
   ·cases h
  ·cases h
theorem N0k{P:Program}{fn:Func}{N:Nat}{w0:World}{own:Nat→Prop}{σ:Nat→Option Nat}{u:U}{a:Act}{w:World}(hf:Fits N w0 own σ u a w){s:St}(hs:Sub s.u u){as:List AV}
  (h:resA P s fn.results.toList=some as):∃v,(results fn a.tmps).run P w=.ok v w∧Rel σ (pack as) v:=by
 obtain ⟨vs,h1,h2⟩:=L1j (P:=P) hf hs _ _ h
 have hres:results fn a.tmps=(do let vs ← fn.results.mapM (Y1t a.tmps);pure (if h:vs.size=1 then vs[0]else .tuple vs)):=by
  unfold results
  congr 2
 rw[hres,Sem.run_bind,← Array.toArray_toList (xs:=fn.results),List.mapM_toArray,Sem.run_map,h1]
 simp only[Result.andThen_ok,Sem.run_pure]
 refine ⟨_,rfl,?_⟩
 match as,vs,h2 with
 | [],vs,h2=>simp only[Rels]at h2;subst h2;simp[pack,Rel,D0v]
 | [x],vs,h2 =>
  simp only[Rels]at h2
  obtain ⟨y,ys,rfl,h3,rfl⟩:=h2
  simpa[pack]using h3
 | x :: x' :: r,vs,h2 =>
  have h3:=Y2j h2 (by simp)
  simp only[Rels]at h2
  obtain ⟨y,ys,rfl,h4,y',ys',rfl,h5,h6⟩:=h2
  simpa using h3
def G2h(P:Program)(F:Nat)(call:Y0r)(wy:Way)(hB:M0e):R0c β:=fun f args H lo hi K =>
 match P.funcs[f]? with
 | none=>none
 | some fn=>match fn.body with
  | none=>none
  | some c=>match Nat.ble args.length fn.ntmps with
   | false=>none
   | true=>Y0e (args++List.replicate (fn.ntmps-args.length) (.val undef)) fun tmps =>
    U0r ((hi-lo) / 2^20) fun step =>
    run P call fn.ntmps wy hB F β c ⟨tmps,H,lo,hi,step,[]⟩ fun e s=>match e with
     | .exit _=>none
     | .normal | .ret=>match resA P s fn.results.toList with
      | some l=>match noAv (C0u s.heap (reach 1000 s.heap (E0e l++H.map (·.1)) [])) with
       | true=>K (pack l) (C0u s.heap (reach 1000 s.heap (E0e l++H.map (·.1)) [])) fun b=>J0t s.log (.blk b)
       | false=>none
      | none=>none
theorem Rels.undefs(σ:Nat→Option Nat)(n:Nat):Rels σ (List.replicate n (.val undef)) (List.replicate n undef):=by
 induction n with
 | zero=>simp[Rels]
 | succ n ih=>simp only[List.replicate_succ,Rels];exact ⟨_,_,rfl,by simp[Rel],ih⟩
theorem G0z{heap:Hp}{b:Nat}{c:Con}:∀{l:List Nat},hget (C0u heap l) b=some c→hget heap b=some c
 | [],h=>by simp[C0u,hget]at h
 | x :: l,h=>by
  simp only[C0u]at h
  split at h
  ·rename_i c' hc
   simp only[hget]at h
   split at h
   ·rename_i e
    rw[← Nat.eq_of_beq_eq_true e,hc];exact h
   ·exact G0z h
  ·exact G0z h
theorem A2n(a:Loc):P1c a a=true:=by cases a<;>simp[P1c]
theorem E1x:∀{ls:List Loc} {l:Loc},l∈ls→J0t ls l=true
 | [],_,h=>by cases h
 | x :: r,l,h=>by
  simp only[J0t]
  split
  ·rfl
  ·rename_i he
   rcases List.mem_cons.1 h with rfl | h
   ·rw[A2n]at he;cases he
   ·exact E1x h
theorem U0a{heap:Hp}:∀{l:List Nat} {p:Nat×Con},p∈C0u heap l→hget heap p.1=some p.2
 | [],p,h=>by cases h
 | b :: l,p,h=>by
  simp only[C0u]at h
  split at h
  ·rename_i c hc
   rcases List.mem_cons.1 h with rfl | h
   ·exact hc
   ·exact U0a h
  ·exact U0a h
theorem A1a{P:Program}{F:Nat}{call:Y0r}{wy:Way}{hB:M0e}(hcall:∀β,D0t P (call β)){f:FuncId}(hfit:∀fn c,P.funcs[f]?=some fn→fn.body=some c→HFit P fn.ntmps hB c)(args:List AV)(H:Hp)(lo hi:Nat)(K:AV→Hp→(Nat→Bool)→Option β)(res:β)(h:G2h P F call wy hB f args H lo hi K=some res) :
  ∃r H' T,K r H' T=some res∧CallFacts P f args H lo hi r H'∧∀p∈H',T p.1=false→hget H p.1=some p.2:=by
 unfold G2h at h
 split at h
 ·cases h
 ·rename_i fn hfn
  split at h
  ·cases h
  ·rename_i c hbody
   split at h
   ·cases h
   ·rename_i hle
    have hle:=Nat.le_of_ble_eq_true hle
    rw[M0n,K0p]at h
    obtain ⟨e,s',h1,h2,hlog⟩:=(Q0n hcall F).1 β res c _ _ (hfit fn c hfn hbody) h
    have key:∃l,resA P s' fn.results.toList=some l∧noAv (C0u s'.heap (reach 1000 s'.heap (E0e l++H.map (·.1)) []))=true∧K (pack l) (C0u s'.heap (reach 1000 s'.heap (E0e l++H.map (·.1)) [])) (fun b=>J0t s'.log (.blk b))=some res∧(e=.normal∨e=.ret):=by
     cases e with
     | exit id=>simp at h1
     | normal =>
      simp only at h1
      split at h1
      ·rename_i l hl
       split at h1
       ·rename_i hno;exact ⟨l,hl,hno,h1,.inl rfl⟩
       ·cases h1
      ·cases h1
     | ret =>
      simp only at h1
      split at h1
      ·rename_i l hl
       split at h1
       ·rename_i hno;exact ⟨l,hl,hno,h1,.inr rfl⟩
       ·cases h1
      ·cases h1
    obtain ⟨l,hl,hnoav,hK,he⟩:=key
    refine ⟨pack l,_,_,hK,fun σ vals w hinj hbd hvals hH hn=>?_,fun p hp hT=>?_⟩
    rotate_left
    ·have h3:Loc.blk p.1 ∉ s'.log:=fun hm=>by rw[E1x hm]at hT;cases hT
     have h4:=hlog.2 _ h3
     simp only[St.u,stU]at h4
     rw[← h4]
     exact U0a hp
    have hlen:=Rels.length hvals
    -- the start
    refine calls_of_wp hfn hbody ?_
    let own:Nat→Prop:=fun k=>∃b c,hget H b=some c∧σ b=some k
    have hargsR:Rels σ (args++List.replicate (fn.ntmps-args.length) (.val undef)) (vals++List.replicate (fn.ntmps-args.length) undef):=Rels.append hvals (Rels.undefs σ _)
    have hst:A0j fn.ntmps w own σ lo hi ⟨args++List.replicate (fn.ntmps-args.length) (.val undef),H,lo,hi,(hi-lo) / 2^20,[]⟩
      {tmps:=List.toArray vals++Array.replicate (fn.ntmps-(List.toArray vals).size) undef,defers:=[]} w:=by
     refine ⟨σ,stU (args++List.replicate (fn.ntmps-args.length) (.val undef)) H,⟨rfl,?_,fun t v hv=>?_,fun b e cs hb=>hH b _ hb,fun b o hb=>hH b _ hb,hinj,hbd,fun b e cs r hb hs=>.inl ⟨b,_,hb,hs⟩,fun b o r hb hs=>.inl ⟨b,_,hb,hs⟩,rfl,rfl,rfl,Nat.le_refl _,fun k _ _=>rfl⟩,Sub.refl _,hn,Le.refl _,fun b hb _=>hb,Nat.le_refl _,Nat.le_refl _⟩
     ·simp;omega
     ·simp only[stU,Option.map_eq_some_iff,Con.av.injEq]at hv
      obtain ⟨x,hx,rfl⟩:=hv
      obtain ⟨y,hy,hrel⟩:=Rels.get hargsR hx
      refine ⟨y,?_,hrel⟩
      rw[← hy]
      have:(List.toArray vals++Array.replicate (fn.ntmps-(List.toArray vals).size) undef)=List.toArray (vals++List.replicate (fn.ntmps-args.length) undef):=by
       apply Array.toList_inj.1;simp[hlen]
      simp only[this,List.getElem?_toArray]
    have fini:∀a' w',A0j fn.ntmps w own σ lo hi s' a' w'→bodyPost P fn (fun e w'=>∃σ' v,e=.returned v∧Le σ σ'∧(∀b,σ b=none→(b<lo∨hi≤b)→σ' b=none)∧Rel σ' (pack l) v∧Y0u σ' (C0u s'.heap (reach 1000 s'.heap (E0e l++H.map (·.1)) [])) w' ∧
      (∀b b' r,σ' b=some r→σ' b'=some r→b=b')∧(∀b r,σ' b=some r→r<w'.heap.size)∧(∀b c,hget (C0u s'.heap (reach 1000 s'.heap (E0e l++H.map (·.1)) [])) b=some c→(∃c',hget H b=some c')∨∀r,σ' b=some r→w.heap.size≤r) ∧
      w'.os=w.os∧w'.tape=w.tape∧w'.output=w.output∧w.heap.size≤w'.heap.size ∧
      (∀k,k<w.heap.size→(∀b c,hget H b=some c→σ b≠some k)→w'.heap[k]?=w.heap[k]?)) e.to a' w':=by
     intro a' w' hst'
     obtain ⟨σ',u',hf',hs',hn',hle',hout',_,_⟩:=hst'
     obtain ⟨v,hv,hrel⟩:=N0k (P:=P) (fn:=fn) hf' hs' hl
     have hnew:∀b c,hget (C0u s'.heap (reach 1000 s'.heap (E0e l++H.map (·.1)) [])) b=some c→(∃c',hget H b=some c')∨∀r,σ' b=some r→w.heap.size≤r:=by
      intro b c hb
      have hu:u' (.blk b)=some c:=hs' _ _ (G0z hb)
      cases c with
      | av x=>exact absurd hb (M0t hnoav b x)
      | row e2 cs2 =>
       obtain ⟨r,vs2,k1,_⟩:=hf'.row b e2 cs2 hu
       rcases hf'.ownsR b e2 cs2 r hu k1 with ⟨b0,c0,h3,h4⟩ | h3
       ·have :=hf'.inj _ _ _ k1 (hle' _ _ h4)
        subst this
        exact .inl ⟨c0,h3⟩
       ·exact .inr fun r' hr'=>by rw[k1]at hr';cases hr';exact h3
      | obj o2 =>
       obtain ⟨r,_,k1,_⟩:=hf'.obj b o2 hu
       rcases hf'.ownsO b o2 r hu k1 with ⟨b0,c0,h3,h4⟩ | h3
       ·have :=hf'.inj _ _ _ k1 (hle' _ _ h4)
        subst this
        exact .inl ⟨c0,h3⟩
       ·exact .inr fun r' hr'=>by rw[k1]at hr';cases hr';exact h3
     have hHF:Y0u σ' (C0u s'.heap (reach 1000 s'.heap (E0e l++H.map (·.1)) [])) w':=by
      intro b c hb
      have hu:u' (.blk b)=some c:=hs' _ _ (G0z hb)
      cases c with
      | av x=>trivial
      | row e2 cs2=>exact hf'.row b e2 cs2 hu
      | obj o2=>exact hf'.obj b o2 hu
     have hR:(fun e w'=>∃σ' v,e=Ending.returned v∧Le σ σ'∧(∀b,σ b=none→(b<lo∨hi≤b)→σ' b=none)∧Rel σ' (pack l) v∧Y0u σ' (C0u s'.heap (reach 1000 s'.heap (E0e l++H.map (·.1)) [])) w' ∧
      (∀b b' r,σ' b=some r→σ' b'=some r→b=b')∧(∀b r,σ' b=some r→r<w'.heap.size)∧(∀b c,hget (C0u s'.heap (reach 1000 s'.heap (E0e l++H.map (·.1)) [])) b=some c→(∃c',hget H b=some c')∨∀r,σ' b=some r→w.heap.size≤r) ∧
      w'.os=w.os∧w'.tape=w.tape∧w'.output=w.output∧w.heap.size≤w'.heap.size ∧
      (∀k,k<w.heap.size→(∀b c,hget H b=some c→σ b≠some k)→w'.heap[k]?=w.heap[k]?)) (.returned v) w' :=
      ⟨σ',v,rfl,hle',hout',hrel,hHF,hf'.inj,hf'.bound,hnew,hf'.os,hf'.tape,hf'.output,hf'.grown,fun k hk hk2=>hf'.frame k hk fun ⟨b,c,h3,h4⟩=>hk2 b c h3 h4⟩
     rcases he with rfl | rfl
     ·exact bodyPost_end hv hf'.defers hR
     ·exact bodyPost_ret hv hf'.defers hR
    exact h2 w own σ lo hi _ w hst _ fini
theorem V2m{P:Program}{F:Nat}{call:Y0r}{wy:Way}(hcall:∀β,D0t P (call β)):D0t P (G2h (β:=β) P F call wy []):=by
 intro f args H lo hi K res h
 exact A1a hcall (fun fn c _ _=>HFit.nil c) args H lo hi K res h
end Go.Ab
