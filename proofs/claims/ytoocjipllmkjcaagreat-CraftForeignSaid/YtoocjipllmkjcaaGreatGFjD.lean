/- A part of the proofs: lemmas, no statement of their own; no condition. -/
import Derived.Test.YtoocjipllmkjcaaGreatGFjA
import Derived.Test.YtoocjipllmkjcaaGreatGFuB
namespace Go.Ab
open Go Go.Proofs
theorem allVals_map : ∀ {l : List AV} {vs : List Value},allVals l = some vs→l = vs.map .val
  | [],vs,h=>by simp only [allVals,Option.some.injEq] at h; subst h; rfl
  | a :: l,vs,h=>by
    cases a with
    | val v =>
      simp only [allVals] at h
      split at h
      · rename_i ws hw
        cases h
        rw [allVals_map hw]
        rfl
      · cases h
    | _=>simp [allVals] at h
def rdCod (α : Type) [Cod α] (l : List AV) : Option α:=match allVals l with
  | some vs=>Cod.dec (.agg ⟨vs⟩)
  | none=>none
theorem rdCod_law {α : Type} [Cod α] {l : List AV} {x : α} (h : rdCod α l = some x) : ∃ vs,l = vs.map .val ∧ Cod.enc x = .agg ⟨vs⟩:=by
  unfold rdCod at h
  split at h
  · rename_i vs hv
    exact ⟨vs,allVals_map hv,(Cod.law _ _ h).symm⟩
  · cases h
def X13.av (x : X13) : List AV:=(cellsL x.rows).map .val
theorem rdX13 {l : List AV} {x : X13} (h : rdCod X13 l = some x) : l = x.av:=by
  obtain ⟨vs,rfl,h2⟩:=rdCod_law h
  have : Value.agg ⟨cellsL x.rows⟩ = .agg ⟨vs⟩:=h2
  injection this with h3
  injection h3 with h4
  unfold X13.av
  rw [h4]
def X13.at (x : X13) : Mx
  | 0=>x.r0.at
  | 1=>x.r1.at
  | 2=>x.r2.at
  | 3=>x.r3.at
  | 4=>x.r4.at
  | 5=>x.r5.at
  | 6=>x.r6.at
  | 7=>x.r7.at
  | 8=>x.r8.at
  | 9=>x.r9.at
  | 10=>x.r10.at
  | 11=>x.r11.at
  | 12=>x.r12.at
  | _=>fun _=>0
theorem at_av (x : X13) : cells13 x.at = x.av:=by kernel_rfl
theorem of_av (X : Mx) : cells13 X = (x13of X).av:=by kernel_rfl
def M6.av (m : M6) : List AV:=(m6c m).map .val
theorem rdM6 {l : List AV} {m : M6} (h : rdCod M6 l = some m) : l = m.av:=by
  obtain ⟨vs,rfl,h2⟩:=rdCod_law h
  have : Value.agg ⟨m6c m⟩ = .agg ⟨vs⟩:=h2
  injection this with h3
  injection h3 with h4
  unfold M6.av
  rw [h4]
theorem at_av6 (m : M6) : cells36 m.at = m.av:=by kernel_rfl
theorem of_av6 (X : Mx) : cells36 X = (M6.of X).av:=by kernel_rfl
structure XR where
  x : X13
  m : R6
abbrev CFun:=Bool→X13→XR × Bool
abbrev PFun:=Bool→X13→X13→M6 × Bool
abbrev OFun:=Bool→M6→Int→Int→M6 × Bool
def centerV (o : Ops) : CFun:=fun b x=>(⟨x13of (centerO o b x.at).1.1,R6.of (centerO o b x.at).1.2⟩,(centerO o b x.at).2)
def prodV (o : Ops) : PFun:=fun b x y=>(M6.of (prodO o b x.at y.at).1,(prodO o b x.at y.at).2)
def ctrS (g : CFun) : Summary:=fun args cs=>match args,cs with
  | [.ptr 0 0,.ptr 1 0],[.row e l,.row e2 [.val (.bool b)]]=>match Nat.beq e 112 && Nat.beq e2 57,rdCod X13 l with
    | true,some x=>.ret (.val (Cod.enc (g b x).1.m)) [.row 112 (g b x).1.x.av,.row 57 [.val (.bool (g b x).2)]]
    | _,_=>.no
  | _,_=>.no
theorem ren13' (x : X13) (b : Bool) : renCs (upTo 2) [.row 112 x.av,.row 57 [.val (.bool b)]] = some [.row 112 x.av,.row 57 [.val (.bool b)]]:=by kernel_rfl
theorem okCtr {o : Ops} (hG : GamOk Tryz.prog (gamN o)) : SumOk Tryz.prog 57 (ctrS (centerV o)):=by
  intro args cs r cs' h
  unfold ctrS at h
  split at h
  · split at h
    · rename_i e l e2 b _ _ x he hv
      simp only [STr.sel,Option.some.injEq,Prod.mk.injEq] at h
      obtain ⟨rfl,rfl⟩:=h
      simp only [Bool.and_eq_true] at he
      rw [Nat.eq_of_beq_eq_true he.1,Nat.eq_of_beq_eq_true he.2,rdX13 hv]
      have hrun:=center_runs (o:=o) hG x.at b
      rw [at_av] at hrun
      refine sum_runs f57_is (c:=ctC) (by unfold ctC; rw [ctC_is]; rfl) ctN (by simp) (by simp) rfl rfl (ren13' x b) (.inr rfl) hrun (cqR ..) rfl rfl (fun b' c hb=>?_) rfl (ren13' ..)
      match b',hb with
      | 0,hb=>cases hb; exact congrArg (fun l=>some (Con.row 112 l)) (of_av _)
      | 1,hb=>cases hb; rfl
      | n + 2,hb=>simp at hb
    · simp [STr.sel] at h
  · simp [STr.sel] at h
def prdS (g : PFun) : Summary:=fun args cs=>match args,cs with
  | [.ptr 0 0,.ptr 1 0,.ptr 1 0],[.row e [.val (.bool b)],.row e1 l]=>match Nat.beq e 57 && Nat.beq e1 112,rdCod X13 l with
    | true,some x=>.ret (.val (Cod.enc (g b x x).1)) [.row 57 [.val (.bool (g b x x).2)],.row 112 x.av]
    | _,_=>.no
  | [.ptr 0 0,.ptr 1 0,.ptr 2 0],[.row e [.val (.bool b)],.row e1 l,.row e2 k]=>match Nat.beq e 57 && (Nat.beq e1 112 && Nat.beq e2 112),rdCod X13 l,rdCod X13 k with
    | true,some x,some y=>.ret (.val (Cod.enc (g b x y).1)) [.row 57 [.val (.bool (g b x y).2)],.row 112 x.av,.row 112 y.av]
    | _,_,_=>.no
  | _,_=>.no
theorem ren_s (x : X13) (b : Bool) : renCs (upTo 2) [.row 57 [.val (.bool b)],.row 112 x.av] = some [.row 57 [.val (.bool b)],.row 112 x.av]:=by kernel_rfl
theorem ren_d (x y : X13) (b : Bool) : renCs (upTo 3) [.row 57 [.val (.bool b)],.row 112 x.av,.row 112 y.av] = some [.row 57 [.val (.bool b)],.row 112 x.av,.row 112 y.av]:=by kernel_rfl
theorem okPrd {o : Ops} (hG : GamOk Tryz.prog (gamN o)) : SumOk Tryz.prog 58 (prdS (prodV o)):=by
  intro args cs r cs' h
  have hb : Tryz.f58.body = some prC:=by unfold prC; rw [prC_is]; rfl
  unfold prdS at h
  split at h
  · split at h
    · rename_i e b e1 l _ _ x he hv
      simp only [STr.sel,Option.some.injEq,Prod.mk.injEq] at h
      obtain ⟨rfl,rfl⟩:=h
      simp only [Bool.and_eq_true] at he
      rw [Nat.eq_of_beq_eq_true he.1,Nat.eq_of_beq_eq_true he.2,rdX13 hv]
      have hrun:=ps_runs (o:=o) hG x.at b
      rw [at_av] at hrun
      refine sum_runs f58_is hb prN (by simp) (by simp) rfl rfl (ren_s x b) (.inr rfl) hrun (psr ..) rfl rfl (fun b' c hb=>?_) rfl (ren_s ..)
      match b',hb with
      | 0,hb=>cases hb; rfl
      | 1,hb=>cases hb; exact congrArg (fun l=>some (Con.row 112 l)) (at_av x)
      | n + 2,hb=>simp at hb
    · simp [STr.sel] at h
  · split at h
    · rename_i e b e1 l e2 k _ _ _ x y he hv hu
      simp only [STr.sel,Option.some.injEq,Prod.mk.injEq] at h
      obtain ⟨rfl,rfl⟩:=h
      simp only [Bool.and_eq_true] at he
      rw [Nat.eq_of_beq_eq_true he.1,Nat.eq_of_beq_eq_true he.2.1,Nat.eq_of_beq_eq_true he.2.2,rdX13 hv,rdX13 hu]
      have hrun:=pd_runs (o:=o) hG x.at y.at b
      rw [at_av,at_av] at hrun
      refine sum_runs f58_is hb prN (by simp) (by simp) rfl rfl (ren_d x y b) (.inr rfl) hrun (pdr ..) rfl rfl (fun b' c hb=>?_) rfl (ren_d ..)
      match b',hb with
      | 0,hb=>cases hb; rfl
      | 1,hb=>cases hb; exact congrArg (fun l=>some (Con.row 112 l)) (at_av x)
      | 2,hb=>cases hb; exact congrArg (fun l=>some (Con.row 112 l)) (at_av y)
      | n + 3,hb=>simp at hb
    · simp [STr.sel] at h
  · simp [STr.sel] at h
def ontoO (o : Ops) (b : Bool) (m : Mx) (p q : Int) : Mx × Bool :=
  let s0:=o.add b (m 0 0) p
  let s1:=o.add s0.2 (m 1 1) p
  let s2:=o.add s1.2 (m 2 2) p
  let s3:=o.add s2.2 (m 3 3) q
  let s4:=o.add s3.2 (m 4 4) q
  let s5:=o.add s4.2 (m 5 5) q
  (setM (setM (setM (setM (setM (setM m 0 0 s0.1) 1 1 s1.1) 2 2 s2.1) 3 3 s3.1) 4 4 s4.1) 5 5 s5.1,s5.2)
theorem onto59 (o : Ops) (b : Bool) (m : Mx) (p q : Int) : fnSum Tryz.prog { gam:=gamN o } [] 20 59 [.ptr 0 0,.ptr 1 0,.val (.int .i64 p),.val (.int .i64 q)] [.row 57 [.val (.bool b)],.row 40 (cells36 m)] =
    some (.val (.tuple #[]),[.row 57 [.val (.bool (ontoO o b m p q).2)],.row 40 (cells36 (ontoO o b m p q).1)]):=by kernel_rfl
def ontoV (o : Ops) : OFun:=fun b m p q=>(M6.of (ontoO o b m.at p q).1,(ontoO o b m.at p q).2)
def ontS (g : OFun) : Summary:=fun args cs=>match args,cs with
  | [.ptr 0 0,.ptr 1 0,.val (.int .i64 p),.val (.int .i64 q)],[.row e [.val (.bool b)],.row e1 l]=>match Nat.beq e 57 && Nat.beq e1 40,rdCod M6 l with
    | true,some m=>.ret (.val (.tuple #[])) [.row 57 [.val (.bool (g b m p q).2)],.row 40 (g b m p q).1.av]
    | _,_=>.no
  | _,_=>.no
theorem okOnt {o : Ops} (hG : GamOk Tryz.prog (gamN o)) : SumOk Tryz.prog 59 (ontS (ontoV o)):=by
  refine sumOk_of (E:={ gam:=gamN o }) hG fun args cs r cs' h=>?_
  unfold ontS at h
  split at h
  · split at h
    · rename_i p q e b e1 l _ _ m he hv
      simp only [STr.sel,Option.some.injEq,Prod.mk.injEq] at h
      obtain ⟨rfl,rfl⟩:=h
      simp only [Bool.and_eq_true] at he
      refine ⟨by simp,20,?_⟩
      rw [Nat.eq_of_beq_eq_true he.1,Nat.eq_of_beq_eq_true he.2,rdM6 hv,← at_av6]
      refine (onto59 o b m.at p q).trans ?_
      rw [of_av6]
      rfl
    · simp [STr.sel] at h
  · simp [STr.sel] at h
def halvesV (r : R6) : Two V3 V3:=⟨⟨r.a,r.b,r.c⟩,⟨r.d,r.e,r.f⟩⟩
def joinV (a b : V3) : R6:=⟨a.x,a.y,a.z,b.x,b.y,b.z⟩
theorem halves53 (r : R6) : fnSum Tryz.prog { gam:=[] } [] 20 53 [.val (Cod.enc r)] [] = some (.val (Cod.enc (halvesV r)),[]):=by kernel_rfl
theorem join55 (a b : V3) : fnSum Tryz.prog { gam:=[] } [] 20 55 [.val (Cod.enc a),.val (Cod.enc b)] [] = some (.val (Cod.enc (joinV a b)),[]):=by kernel_rfl
theorem okHalves : SumOk Tryz.prog 53 (S0 fun (p : R6 × Unit)=>halvesV p.1):=S0_ok (E:={ gam:=[] }) GamOk.nil 20 fun a=>halves53 a.1
theorem okJoin : SumOk Tryz.prog 55 (S0 fun (p : V3 × V3 × Unit)=>joinV p.1 p.2.1):=S0_ok (E:={ gam:=[] }) GamOk.nil 20 fun a=>join55 a.1 a.2.1
abbrev QFun:=Bool→V4 × V4 × Unit→V4 × Bool
abbrev RFun:=Bool→V3 × Unit→V4 × Bool
abbrev TFun:=Bool→V3 × V4 × Unit→V4 × Bool
abbrev UFun:=Bool→V4 × Unit→V4 × Bool
def turnedO (mu : QFun) (fr : RFun) (b : Bool) (p : V3 × V4 × Unit) : V4 × Bool :=
  let r:=fr b (p.1,())
  mu r.2 (r.1,p.2.1,())
theorem turned54 (mu : QFun) (fr : RFun) (b : Bool) (p : V3) (q : V4) : fnSum Tryz.prog { gam:=[(135,S 57 mu),(142,S 57 fr)] } [] 20 54 [.ptr 0 0,.val (Cod.enc p),.val (Cod.enc q)] (row 57 b) =
    some (.val (Cod.enc (turnedO mu fr b (p,q,())).1),row 57 (turnedO mu fr b (p,q,())).2):=by kernel_rfl
def Gs.zero : Gs:=⟨V4.zero,V3.zero,M6.zero⟩
def settle0 (va : Bool→V3 × V3 × Unit→V3 × Bool) (un : UFun) (tu : TFun) (b : Bool) (q : V4) (bias : V3) (by_ : R6) (p : M6) : Gs × Bool :=
  let t:=tu b ((halvesV by_).a,q,())
  let u:=un t.2 (t.1,())
  let c:=va u.2 (bias,(halvesV by_).b,())
  (⟨u.1,c.1,p⟩,c.2)
def settleO (va : Bool→V3 × V3 × Unit→V3 × Bool) (un : UFun) (tu : TFun) (b : Bool) (p : V4 × V3 × R6 × M6 × Unit) : Two Gs Bool × Bool :=
  let r:=settle0 va un tu b p.1 p.2.1 p.2.2.1 p.2.2.2.1
  (bif r.2 then ⟨Gs.zero,false⟩ else ⟨r.1,true⟩,r.2)
theorem settle66 (va : Bool→V3 × V3 × Unit→V3 × Bool) (un : UFun) (tu : TFun) (b : Bool) (q : V4) (bias : V3) (by_ : R6) (p : M6) :
    fnSum Tryz.prog { gam:=[(146,S 57 va),(133,S 57 un),(54,S 57 tu),(53,S0 fun (p : R6 × Unit)=>halvesV p.1)] } [] 20 66 [.ptr 0 0,.val (Cod.enc q),.val (Cod.enc bias),.val (Cod.enc by_),.val (Cod.enc p)] (row 57 b) =
      bif (settle0 va un tu b q bias by_ p).2 then some (.val (Cod.enc (Two.mk Gs.zero false)),row 57 (settle0 va un tu b q bias by_ p).2) else some (.val (Cod.enc (Two.mk (settle0 va un tu b q bias by_ p).1 true)),row 57 (settle0 va un tu b q bias by_ p).2):=by kernel_rfl
end Go.Ab
namespace Go.Ab
open Go Go.Proofs
def X13.row (x : X13) : Nat→R6
  | 0=>x.r0
  | 1=>x.r1
  | 2=>x.r2
  | 3=>x.r3
  | 4=>x.r4
  | 5=>x.r5
  | 6=>x.r6
  | 7=>x.r7
  | 8=>x.r8
  | 9=>x.r9
  | 10=>x.r10
  | 11=>x.r11
  | _=>x.r12
def v4at (q : V4) : Nat→Int
  | 0=>q.w
  | 1=>q.x
  | 2=>q.y
  | _=>q.z
def v4of (v : Nat→Int) : V4:=⟨v 0,v 1,v 2,v 3⟩
def setT (T : Mx) (k : Nat) (q : V4) : Mx:=fun a c=>bif Nat.beq a k then v4at q c else T a c
def setX (X : Mx) (k : Nat) (r : R6) : Mx:=fun a c=>bif Nat.beq a k then r.at c else X a c
def cells52 (T : Mx) : List AV:=(nums 0 52).map fun j=>.val (.int .i64 (T (j / 4) (j % 4)))
def V3.av (v : V3) : List AV:=[.val (.int .i64 v.x),.val (.int .i64 v.y),.val (.int .i64 v.z)]
def V4.av (v : V4) : List AV:=[.val (.int .i64 v.w),.val (.int .i64 v.x),.val (.int .i64 v.y),.val (.int .i64 v.z)]
def R6.av (r : R6) : List AV:=r.cells.map .val
def Gs.av (g : Gs) : List AV:=g.q.av ++ (g.bias.av ++ g.p.av)
structure FOps where
  o : Ops
  vs : Bool→V3 × V3 × Unit→V3 × Bool
  tu : TFun
  un : UFun
  mu : QFun
  tr : Bool→V4 × Unit→V3 × Bool
  bk : V4 × Unit→V4
  pt : Bool→Gs × Unit→X13 × Bool
  cen : CFun
  pro : PFun
  ont : OFun
  st : Bool→V4 × V3 × R6 × M6 × Unit→Two Gs Bool × Bool
def gamMv (F : FOps) : Gam:=[(132,S 57 F.vs),(54,S 57 F.tu),(133,S 57 F.un),(135,S 57 F.mu),(134,S 57 F.tr),(136,S0 F.bk),(52,S 57 F.pt),(57,ctrS F.cen),(58,prdS F.pro),(59,ontS F.ont),(66,S 57 F.st),(53,S0 fun (p : R6 × Unit)=>halvesV p.1),(55,S0 fun (p : V3 × V3 × Unit)=>joinV p.1 p.2.1),(65,S 57 (op3 F.o.part)),(131,S 57 failV)]
abbrev eM (F : FOps) : Env:={ gam:=gamMv F }
def mv1 (F : FOps) (q : V4) (rate : V3) (ms : Int) (r : R6) (b : Bool) : V4 × Bool :=
  let w:=F.vs b (rate,(halvesV r).b,())
  let w0:=F.o.part w.2 w.1.x ms 1000
  let w1:=F.o.part w0.2 w.1.y ms 1000
  let w2:=F.o.part w1.2 w.1.z ms 1000
  let p:=F.tu w2.2 ((halvesV r).a,q,())
  F.tu p.2 (⟨w0.1,w1.1,w2.1⟩,p.1,())
def mv2 (F : FOps) (mid t : V4) (r : R6) (b : Bool) : R6 × Bool :=
  let m:=F.mu b (t,F.bk (mid,()),())
  let e:=F.tr m.2 (m.1,())
  (joinV e.1 (halvesV r).b,e.2)
noncomputable def vC : Code:=Tryz.f49.body.getD .skip
noncomputable def v0 : Code:=seqL vC
noncomputable def vT1 : Code:=seqR vC
noncomputable def v1 : Code:=seqL vT1
noncomputable def vT3 : Code:=seqR vT1
noncomputable def v3 : Code:=seqL vT3
noncomputable def v4 : Code:=seqL (seqR vT3)
noncomputable def v5 : Code:=seqL (seqR (seqR vT3))
noncomputable def vT6 : Code:=seqR (seqR (seqR vT3))
noncomputable def v6 : Code:=seqL (seqL vT6)
noncomputable def vL : Code:=inB (inB (seqR (seqL vT6)))
noncomputable def vT18 : Code:=seqR vT6
noncomputable def v18 : Code:=seqL vT18
noncomputable def v19 : Code:=seqL (seqL (seqR vT18))
noncomputable def vM : Code:=inB (inB (seqR (seqL (seqR vT18))))
noncomputable def vT25 : Code:=seqR (seqR vT18)
noncomputable def v25 : Code:=seqL vT25
noncomputable def v26 : Code:=seqL (seqR vT25)
noncomputable def v27 : Code:=seqL (seqR (seqR vT25))
noncomputable def v28 : Code:=seqL (seqR (seqR (seqR vT25)))
noncomputable def v29 : Code:=seqR (seqR (seqR (seqR vT25)))
theorem vC_is : Tryz.f49.body = some (.seq v0 (.seq v1 (.seq v3 (.seq v4 (.seq v5 (.seq (.seq v6 (.block 0 (.loop vL))) (.seq v18 (.seq (.seq v19 (.block 4 (.loop vM))) (.seq v25 (.seq v26 (.seq v27 (.seq v28 v29)))))))))))):=by kernel_rfl
theorem vN : Tryz.f49.ntmps = 130:=by kernel_rfl
abbrev nH : Nat:=4096 + 7 * 2 ^ 180
abbrev nI : Nat:=4096 + 8 * 2 ^ 180
abbrev nJ : Nat:=4096 + 9 * 2 ^ 180
def vH (b : Bool) (g : Gs) (rate : V3) (e : Hp) : Hp:=[(0,.row 57 [.val (.bool b)]),(nA,.row 42 g.av),(nB,.row 32 rate.av),(nC,.row 42 Gs.zero.av)] ++ e
def vF (ms : Int) (e : List (Nat × AV)) : List (Nat × AV):=[(0,.ptr 0 0),(3,.val (.int .i64 ms)),(5,.ptr nA 0),(6,.ptr nB 0),(8,.ptr nC 0)] ++ e
abbrev vK (e : List Nat) : List Nat:=[0,nA,nB,nC] ++ e
abbrev vTs (e : List Nat) : List Nat:=[0,3,5,6,8] ++ e
def vS0 (ms : Int) (b : Bool) (g : Gs) (rate : V3) : St:=gSt 130 (vF ms []) (vH b g rate []) nD
def vS3 (ms : Int) (b : Bool) (g : Gs) (rate : V3) (x : X13) : St:=gSt 130 (vF ms [(9,.ptr nD 0)]) (vH b g rate [(nD,.row 112 x.av)]) nE
def vS5 (ms : Int) (b : Bool) (g : Gs) (rate : V3) (x : X13) : St:=gSt 130 (vF ms [(9,.ptr nD 0),(10,.ptr nE 0)]) (vH b g rate [(nD,.row 112 x.av),(nE,.row 193 (cells52 mx0))]) nF
def vSL (ms : Int) (k : Int) (g : Gs) (rate : V3) (x : X13) (T : Mx) (b : Bool) : St:=gSt 130 (vF ms [(9,.ptr nD 0),(10,.ptr nE 0),(42,.val (Cod.enc x)),(43,.val (.int .i64 k))]) (vH b g rate [(nD,.row 112 x.av),(nE,.row 193 (cells52 T))]) nF
def vSX (ms : Int) (g : Gs) (rate : V3) (x : X13) (T : Mx) (b : Bool) : St:=gSt 130 (vF ms [(9,.ptr nD 0),(10,.ptr nE 0)]) (vH b g rate [(nD,.row 112 x.av),(nE,.row 193 (cells52 T))]) nF
def vG (ms : Int) (e : List (Nat × AV)) : List (Nat × AV):=[(0,.ptr 0 0),(3,.val (.int .i64 ms)),(5,.ptr nA 0),(8,.ptr nC 0),(9,.ptr nD 0),(17,.ptr nF 0)] ++ e
def vI (b : Bool) (g : Gs) (mid : V4) (xs : List AV) (e : Hp) : Hp:=[(0,.row 57 [.val (.bool b)]),(nA,.row 42 g.av),(nC,.row 42 Gs.zero.av),(nD,.row 112 xs),(nF,.row 36 mid.av)] ++ e
abbrev vK2 (e : List Nat) : List Nat:=[0,nA,nC,nD,nF] ++ e
abbrev vT2 (e : List Nat) : List Nat:=[0,3,5,8,9,17] ++ e
def vS18 (ms : Int) (g : Gs) (mid : V4) (x : X13) (T : Mx) (b : Bool) : St:=gSt 130 (vG ms [(10,.ptr nE 0)]) (vI b g mid x.av [(nE,.row 193 (cells52 T))]) nG
def vSM (ms : Int) (k : Int) (g : Gs) (mid : V4) (x : X13) (T X : Mx) (b : Bool) : St:=gSt 130 (vG ms [(10,.ptr nE 0),(83,.val (Cod.enc x)),(84,.val (.int .i64 k))]) (vI b g mid (cells13 X) [(nE,.row 193 (cells52 T))]) nG
def vSY (ms : Int) (g : Gs) (mid : V4) (X : Mx) (b : Bool) : St:=gSt 130 (vG ms []) (vI b g mid (cells13 X) []) nG
def vS25 (ms : Int) (g : Gs) (mid : V4) (x : X13) (m : R6) (b : Bool) : St:=gSt 130 (vG ms [(22,.ptr nG 0)]) (vI b g mid x.av [(nG,.row 38 m.av)]) nH
def vS26 (ms : Int) (g : Gs) (mid : V4) (x : X13) (m : R6) (p : M6) (b : Bool) : St:=gSt 130 (vG ms [(22,.ptr nG 0),(23,.ptr nH 0)]) (vI b g mid x.av [(nG,.row 38 m.av),(nH,.row 40 p.av)]) nI
def vS28 (g : Gs) (b : Bool) : St:=gSt 130 [(8,.ptr nC 0),(24,.ptr nI 0)] [(0,.row 57 [.val (.bool b)]),(nC,.row 42 Gs.zero.av),(nI,.row 42 g.av)] nJ
def vS29 (g : Gs) (b : Bool) : St:=gSt 130 [(8,.ptr nC 0)] [(0,.row 57 [.val (.bool b)]),(nC,.row 42 g.av)] nJ
section
variable (F : FOps) (ms k : Int) (b : Bool) (g g' : Gs) (rate : V3) (x : X13) (T X : Mx) (mid : V4) (m : R6) (p : M6)
theorem vq0 : gRun Tryz.prog (eM F) 130 v0 (startS 130 [.ptr 0 0,.val (Cod.enc g),.val (Cod.enc rate),.val (.int .i64 ms)] (row 57 b)) (vK []) (vTs []) = some (.normal,vS0 ms b g rate):=by kernel_rfl
theorem vq1 : gRun Tryz.prog (eM F) 130 v1 (vS0 ms b g rate) (vK []) (vTs []) = bif decide (ms < 10) then some (.normal,vS0 ms true g rate) else bif bif false then true else decide (ms > 10000) then some (.normal,vS0 ms true g rate) else some (.normal,{ vS0 ms b g rate with lo:=nD }):=by kernel_rfl
theorem vq3 : gRun Tryz.prog (eM F) 130 v3 (vS0 ms b g rate) (vK [nD]) (vTs [9]) = some (.normal,vS3 ms (F.pt b (g,())).2 g rate (F.pt b (g,())).1):=by kernel_rfl
theorem vq4 : gRun Tryz.prog (eM F) 130 v4 (vS3 ms b g rate x) (vK [nD]) (vTs [9]) = some (.normal,vS3 ms (F.vs b (rate,g.bias,())).2 g (F.vs b (rate,g.bias,())).1 x):=by kernel_rfl
theorem vq5 : gRun Tryz.prog (eM F) 130 v5 (vS3 ms b g rate x) (vK [nD,nE]) (vTs [9,10]) = some (.normal,vS5 ms b g rate x):=by kernel_rfl
theorem vq6 : gRun Tryz.prog (eM F) 130 v6 (vS5 ms b g rate x) (vK [nD,nE]) (vTs [9,10,42,43]) = some (.normal,vSL ms 0 g rate x mx0 b):=by kernel_rfl
theorem vqL_0 : gCut Tryz.prog (eM F) 130 vL (vSL ms 0 g rate x T b) nF (vK [nD,nE]) (vTs [9,10,42,43]) = some (.normal,vSL ms 1 g rate x (setT T 0 (mv1 F g.q rate ms (x.row 0) b).1) (mv1 F g.q rate ms (x.row 0) b).2):=by kernel_rfl
theorem vqL_1 : gCut Tryz.prog (eM F) 130 vL (vSL ms 1 g rate x T b) nF (vK [nD,nE]) (vTs [9,10,42,43]) = some (.normal,vSL ms 2 g rate x (setT T 1 (mv1 F g.q rate ms (x.row 1) b).1) (mv1 F g.q rate ms (x.row 1) b).2):=by kernel_rfl
theorem vqL_2 : gCut Tryz.prog (eM F) 130 vL (vSL ms 2 g rate x T b) nF (vK [nD,nE]) (vTs [9,10,42,43]) = some (.normal,vSL ms 3 g rate x (setT T 2 (mv1 F g.q rate ms (x.row 2) b).1) (mv1 F g.q rate ms (x.row 2) b).2):=by kernel_rfl
theorem vqL_3 : gCut Tryz.prog (eM F) 130 vL (vSL ms 3 g rate x T b) nF (vK [nD,nE]) (vTs [9,10,42,43]) = some (.normal,vSL ms 4 g rate x (setT T 3 (mv1 F g.q rate ms (x.row 3) b).1) (mv1 F g.q rate ms (x.row 3) b).2):=by kernel_rfl
theorem vqL_4 : gCut Tryz.prog (eM F) 130 vL (vSL ms 4 g rate x T b) nF (vK [nD,nE]) (vTs [9,10,42,43]) = some (.normal,vSL ms 5 g rate x (setT T 4 (mv1 F g.q rate ms (x.row 4) b).1) (mv1 F g.q rate ms (x.row 4) b).2):=by kernel_rfl
theorem vqL_5 : gCut Tryz.prog (eM F) 130 vL (vSL ms 5 g rate x T b) nF (vK [nD,nE]) (vTs [9,10,42,43]) = some (.normal,vSL ms 6 g rate x (setT T 5 (mv1 F g.q rate ms (x.row 5) b).1) (mv1 F g.q rate ms (x.row 5) b).2):=by kernel_rfl
theorem vqL_6 : gCut Tryz.prog (eM F) 130 vL (vSL ms 6 g rate x T b) nF (vK [nD,nE]) (vTs [9,10,42,43]) = some (.normal,vSL ms 7 g rate x (setT T 6 (mv1 F g.q rate ms (x.row 6) b).1) (mv1 F g.q rate ms (x.row 6) b).2):=by kernel_rfl
theorem vqL_7 : gCut Tryz.prog (eM F) 130 vL (vSL ms 7 g rate x T b) nF (vK [nD,nE]) (vTs [9,10,42,43]) = some (.normal,vSL ms 8 g rate x (setT T 7 (mv1 F g.q rate ms (x.row 7) b).1) (mv1 F g.q rate ms (x.row 7) b).2):=by kernel_rfl
theorem vqL_8 : gCut Tryz.prog (eM F) 130 vL (vSL ms 8 g rate x T b) nF (vK [nD,nE]) (vTs [9,10,42,43]) = some (.normal,vSL ms 9 g rate x (setT T 8 (mv1 F g.q rate ms (x.row 8) b).1) (mv1 F g.q rate ms (x.row 8) b).2):=by kernel_rfl
theorem vqL_9 : gCut Tryz.prog (eM F) 130 vL (vSL ms 9 g rate x T b) nF (vK [nD,nE]) (vTs [9,10,42,43]) = some (.normal,vSL ms 10 g rate x (setT T 9 (mv1 F g.q rate ms (x.row 9) b).1) (mv1 F g.q rate ms (x.row 9) b).2):=by kernel_rfl
theorem vqL_10 : gCut Tryz.prog (eM F) 130 vL (vSL ms 10 g rate x T b) nF (vK [nD,nE]) (vTs [9,10,42,43]) = some (.normal,vSL ms 11 g rate x (setT T 10 (mv1 F g.q rate ms (x.row 10) b).1) (mv1 F g.q rate ms (x.row 10) b).2):=by kernel_rfl
theorem vqL_11 : gCut Tryz.prog (eM F) 130 vL (vSL ms 11 g rate x T b) nF (vK [nD,nE]) (vTs [9,10,42,43]) = some (.normal,vSL ms 12 g rate x (setT T 11 (mv1 F g.q rate ms (x.row 11) b).1) (mv1 F g.q rate ms (x.row 11) b).2):=by kernel_rfl
theorem vqL_12 : gCut Tryz.prog (eM F) 130 vL (vSL ms 12 g rate x T b) nF (vK [nD,nE]) (vTs [9,10,42,43]) = some (.normal,vSL ms 13 g rate x (setT T 12 (mv1 F g.q rate ms (x.row 12) b).1) (mv1 F g.q rate ms (x.row 12) b).2):=by kernel_rfl
theorem vqL_13 : gCut Tryz.prog (eM F) 130 vL (vSL ms 13 g rate x T b) nF (vK [nD,nE]) (vTs [9,10]) = some (.exit 0,vSX ms g rate x T b):=by kernel_rfl
theorem vq18 : gRun Tryz.prog (eM F) 130 v18 (vSX ms g rate x T b) (vK2 [nE]) (vT2 [10]) = some (.normal,vS18 ms g (F.un b (v4of (T 0),())).1 x T (F.un b (v4of (T 0),())).2):=by kernel_rfl
theorem vq19 : gRun Tryz.prog (eM F) 130 v19 (vS18 ms g mid x T b) (vK2 [nE]) (vT2 [10,83,84]) = some (.normal,vSM ms 0 g mid x T x.at b):=by kernel_rfl
theorem vqM_0 : gCut Tryz.prog (eM F) 130 vM (vSM ms 0 g mid x T X b) nG (vK2 [nE]) (vT2 [10,83,84]) = some (.normal,vSM ms 1 g mid x T (setX X 0 (mv2 F mid (v4of (T 0)) (x.row 0) b).1) (mv2 F mid (v4of (T 0)) (x.row 0) b).2):=by kernel_rfl
theorem vqM_1 : gCut Tryz.prog (eM F) 130 vM (vSM ms 1 g mid x T X b) nG (vK2 [nE]) (vT2 [10,83,84]) = some (.normal,vSM ms 2 g mid x T (setX X 1 (mv2 F mid (v4of (T 1)) (x.row 1) b).1) (mv2 F mid (v4of (T 1)) (x.row 1) b).2):=by kernel_rfl
theorem vqM_2 : gCut Tryz.prog (eM F) 130 vM (vSM ms 2 g mid x T X b) nG (vK2 [nE]) (vT2 [10,83,84]) = some (.normal,vSM ms 3 g mid x T (setX X 2 (mv2 F mid (v4of (T 2)) (x.row 2) b).1) (mv2 F mid (v4of (T 2)) (x.row 2) b).2):=by kernel_rfl
theorem vqM_3 : gCut Tryz.prog (eM F) 130 vM (vSM ms 3 g mid x T X b) nG (vK2 [nE]) (vT2 [10,83,84]) = some (.normal,vSM ms 4 g mid x T (setX X 3 (mv2 F mid (v4of (T 3)) (x.row 3) b).1) (mv2 F mid (v4of (T 3)) (x.row 3) b).2):=by kernel_rfl
theorem vqM_4 : gCut Tryz.prog (eM F) 130 vM (vSM ms 4 g mid x T X b) nG (vK2 [nE]) (vT2 [10,83,84]) = some (.normal,vSM ms 5 g mid x T (setX X 4 (mv2 F mid (v4of (T 4)) (x.row 4) b).1) (mv2 F mid (v4of (T 4)) (x.row 4) b).2):=by kernel_rfl
theorem vqM_5 : gCut Tryz.prog (eM F) 130 vM (vSM ms 5 g mid x T X b) nG (vK2 [nE]) (vT2 [10,83,84]) = some (.normal,vSM ms 6 g mid x T (setX X 5 (mv2 F mid (v4of (T 5)) (x.row 5) b).1) (mv2 F mid (v4of (T 5)) (x.row 5) b).2):=by kernel_rfl
theorem vqM_6 : gCut Tryz.prog (eM F) 130 vM (vSM ms 6 g mid x T X b) nG (vK2 [nE]) (vT2 [10,83,84]) = some (.normal,vSM ms 7 g mid x T (setX X 6 (mv2 F mid (v4of (T 6)) (x.row 6) b).1) (mv2 F mid (v4of (T 6)) (x.row 6) b).2):=by kernel_rfl
theorem vqM_7 : gCut Tryz.prog (eM F) 130 vM (vSM ms 7 g mid x T X b) nG (vK2 [nE]) (vT2 [10,83,84]) = some (.normal,vSM ms 8 g mid x T (setX X 7 (mv2 F mid (v4of (T 7)) (x.row 7) b).1) (mv2 F mid (v4of (T 7)) (x.row 7) b).2):=by kernel_rfl
theorem vqM_8 : gCut Tryz.prog (eM F) 130 vM (vSM ms 8 g mid x T X b) nG (vK2 [nE]) (vT2 [10,83,84]) = some (.normal,vSM ms 9 g mid x T (setX X 8 (mv2 F mid (v4of (T 8)) (x.row 8) b).1) (mv2 F mid (v4of (T 8)) (x.row 8) b).2):=by kernel_rfl
theorem vqM_9 : gCut Tryz.prog (eM F) 130 vM (vSM ms 9 g mid x T X b) nG (vK2 [nE]) (vT2 [10,83,84]) = some (.normal,vSM ms 10 g mid x T (setX X 9 (mv2 F mid (v4of (T 9)) (x.row 9) b).1) (mv2 F mid (v4of (T 9)) (x.row 9) b).2):=by kernel_rfl
theorem vqM_10 : gCut Tryz.prog (eM F) 130 vM (vSM ms 10 g mid x T X b) nG (vK2 [nE]) (vT2 [10,83,84]) = some (.normal,vSM ms 11 g mid x T (setX X 10 (mv2 F mid (v4of (T 10)) (x.row 10) b).1) (mv2 F mid (v4of (T 10)) (x.row 10) b).2):=by kernel_rfl
theorem vqM_11 : gCut Tryz.prog (eM F) 130 vM (vSM ms 11 g mid x T X b) nG (vK2 [nE]) (vT2 [10,83,84]) = some (.normal,vSM ms 12 g mid x T (setX X 11 (mv2 F mid (v4of (T 11)) (x.row 11) b).1) (mv2 F mid (v4of (T 11)) (x.row 11) b).2):=by kernel_rfl
theorem vqM_12 : gCut Tryz.prog (eM F) 130 vM (vSM ms 12 g mid x T X b) nG (vK2 [nE]) (vT2 [10,83,84]) = some (.normal,vSM ms 13 g mid x T (setX X 12 (mv2 F mid (v4of (T 12)) (x.row 12) b).1) (mv2 F mid (v4of (T 12)) (x.row 12) b).2):=by kernel_rfl
theorem vqM_13 : gCut Tryz.prog (eM F) 130 vM (vSM ms 13 g mid x T X b) nG (vK2 []) (vT2 []) = some (.exit 4,vSY ms g mid X b):=by kernel_rfl
theorem vq25 : gRun Tryz.prog (eM F) 130 v25 (vSY ms g mid X b) (vK2 [nG]) (vT2 [22]) = some (.normal,vS25 ms g mid (F.cen b (x13of X)).1.x (F.cen b (x13of X)).1.m (F.cen b (x13of X)).2):=by kernel_rfl
theorem vq26 : gRun Tryz.prog (eM F) 130 v26 (vS25 ms g mid x m b) (vK2 [nG,nH]) (vT2 [22,23]) = some (.normal,vS26 ms g mid x m (F.pro b x x).1 (F.pro b x x).2):=by kernel_rfl
def mv3 (F : FOps) (ms : Int) (p : M6) (b : Bool) : M6 × Bool :=
  let a:=F.o.part b 65536 ms 1000
  let d:=F.o.part a.2 1024 ms 1000
  F.ont d.2 p a.1 d.1
theorem vq27 : gRun Tryz.prog (eM F) 130 v27 (vS26 ms g mid x m p b) (vK2 [nG,nH]) (vT2 [22,23]) = some (.normal,vS26 ms g mid x m (mv3 F ms p b).1 (mv3 F ms p b).2):=by kernel_rfl
theorem vq28 : gRun Tryz.prog (eM F) 130 v28 (vS26 ms g mid x m p b) [0,nC,nI] [8,24] = some (.normal,vS28 (F.st b (mid,g.bias,m,p,())).1.a (F.st b (mid,g.bias,m,p,())).2):=by kernel_rfl
theorem vq29 : gRun Tryz.prog (eM F) 130 v29 (vS28 g b) [0,nC] [8] = some (.ret,vS29 g b):=by kernel_rfl
theorem vR : resA Tryz.prog (vS29 g b) Tryz.f49.results.toList = some [.val (Cod.enc g)]:=by kernel_rfl
theorem vcL : okClean nF (vSL ms k g rate x T b) = true:=by kernel_rfl
theorem vcX : okClean nF (vSX ms g rate x T b) = true:=by kernel_rfl
theorem vcM : okClean nG (vSM ms k g mid x T X b) = true:=by kernel_rfl
theorem vcY : okClean nG (vSY ms g mid X b) = true:=by kernel_rfl
end
section
variable {F : FOps} (hG : GamOk Tryz.prog (eM F).gam) (ms k : Int) (b : Bool) (g : Gs) (rate : V3) (x : X13) (T X : Mx) (mid : V4)
include hG
omit hG in
theorem vlL : (vSL ms k g rate x T b).lo = nF:=rfl
omit hG in
theorem vlM : (vSM ms k g mid x T X b).lo = nG:=rfl
def mvF1 (F : FOps) (q : V4) (rate : V3) (ms : Int) (x : X13) (k : Nat) (z : Mx × Bool) : Mx × Bool:=(setT z.1 k (mv1 F q rate ms (x.row k) z.2).1,(mv1 F q rate ms (x.row k) z.2).2)
def mvF2 (F : FOps) (mid : V4) (x : X13) (T : Mx) (k : Nat) (z : Mx × Bool) : Mx × Bool:=(setX z.1 k (mv2 F mid (v4of (T k)) (x.row k) z.2).1,(mv2 F mid (v4of (T k)) (x.row k) z.2).2)
theorem vuL_0 : RunsTo Tryz.prog 130 vL (vSL ms 0 g rate x T b) .normal (vSL ms 1 g rate x (mvF1 F g.q rate ms x 0 (T,b)).1 (mvF1 F g.q rate ms x 0 (T,b)).2):=gCut_runs hG (vqL_0 F ms b g rate x T) (vlL ..) (vcL ..) rfl
theorem vuM_0 : RunsTo Tryz.prog 130 vM (vSM ms 0 g mid x T X b) .normal (vSM ms 1 g mid x T (mvF2 F mid x T 0 (X,b)).1 (mvF2 F mid x T 0 (X,b)).2):=gCut_runs hG (vqM_0 F ms b g x T X mid) (vlM ..) (vcM ..) rfl
theorem vuL_1 : RunsTo Tryz.prog 130 vL (vSL ms 1 g rate x T b) .normal (vSL ms 2 g rate x (mvF1 F g.q rate ms x 1 (T,b)).1 (mvF1 F g.q rate ms x 1 (T,b)).2):=gCut_runs hG (vqL_1 F ms b g rate x T) (vlL ..) (vcL ..) rfl
theorem vuM_1 : RunsTo Tryz.prog 130 vM (vSM ms 1 g mid x T X b) .normal (vSM ms 2 g mid x T (mvF2 F mid x T 1 (X,b)).1 (mvF2 F mid x T 1 (X,b)).2):=gCut_runs hG (vqM_1 F ms b g x T X mid) (vlM ..) (vcM ..) rfl
theorem vuL_2 : RunsTo Tryz.prog 130 vL (vSL ms 2 g rate x T b) .normal (vSL ms 3 g rate x (mvF1 F g.q rate ms x 2 (T,b)).1 (mvF1 F g.q rate ms x 2 (T,b)).2):=gCut_runs hG (vqL_2 F ms b g rate x T) (vlL ..) (vcL ..) rfl
theorem vuM_2 : RunsTo Tryz.prog 130 vM (vSM ms 2 g mid x T X b) .normal (vSM ms 3 g mid x T (mvF2 F mid x T 2 (X,b)).1 (mvF2 F mid x T 2 (X,b)).2):=gCut_runs hG (vqM_2 F ms b g x T X mid) (vlM ..) (vcM ..) rfl
theorem vuL_3 : RunsTo Tryz.prog 130 vL (vSL ms 3 g rate x T b) .normal (vSL ms 4 g rate x (mvF1 F g.q rate ms x 3 (T,b)).1 (mvF1 F g.q rate ms x 3 (T,b)).2):=gCut_runs hG (vqL_3 F ms b g rate x T) (vlL ..) (vcL ..) rfl
theorem vuM_3 : RunsTo Tryz.prog 130 vM (vSM ms 3 g mid x T X b) .normal (vSM ms 4 g mid x T (mvF2 F mid x T 3 (X,b)).1 (mvF2 F mid x T 3 (X,b)).2):=gCut_runs hG (vqM_3 F ms b g x T X mid) (vlM ..) (vcM ..) rfl
theorem vuL_4 : RunsTo Tryz.prog 130 vL (vSL ms 4 g rate x T b) .normal (vSL ms 5 g rate x (mvF1 F g.q rate ms x 4 (T,b)).1 (mvF1 F g.q rate ms x 4 (T,b)).2):=gCut_runs hG (vqL_4 F ms b g rate x T) (vlL ..) (vcL ..) rfl
theorem vuM_4 : RunsTo Tryz.prog 130 vM (vSM ms 4 g mid x T X b) .normal (vSM ms 5 g mid x T (mvF2 F mid x T 4 (X,b)).1 (mvF2 F mid x T 4 (X,b)).2):=gCut_runs hG (vqM_4 F ms b g x T X mid) (vlM ..) (vcM ..) rfl
theorem vuL_5 : RunsTo Tryz.prog 130 vL (vSL ms 5 g rate x T b) .normal (vSL ms 6 g rate x (mvF1 F g.q rate ms x 5 (T,b)).1 (mvF1 F g.q rate ms x 5 (T,b)).2):=gCut_runs hG (vqL_5 F ms b g rate x T) (vlL ..) (vcL ..) rfl
theorem vuM_5 : RunsTo Tryz.prog 130 vM (vSM ms 5 g mid x T X b) .normal (vSM ms 6 g mid x T (mvF2 F mid x T 5 (X,b)).1 (mvF2 F mid x T 5 (X,b)).2):=gCut_runs hG (vqM_5 F ms b g x T X mid) (vlM ..) (vcM ..) rfl
theorem vuL_6 : RunsTo Tryz.prog 130 vL (vSL ms 6 g rate x T b) .normal (vSL ms 7 g rate x (mvF1 F g.q rate ms x 6 (T,b)).1 (mvF1 F g.q rate ms x 6 (T,b)).2):=gCut_runs hG (vqL_6 F ms b g rate x T) (vlL ..) (vcL ..) rfl
theorem vuM_6 : RunsTo Tryz.prog 130 vM (vSM ms 6 g mid x T X b) .normal (vSM ms 7 g mid x T (mvF2 F mid x T 6 (X,b)).1 (mvF2 F mid x T 6 (X,b)).2):=gCut_runs hG (vqM_6 F ms b g x T X mid) (vlM ..) (vcM ..) rfl
theorem vuL_7 : RunsTo Tryz.prog 130 vL (vSL ms 7 g rate x T b) .normal (vSL ms 8 g rate x (mvF1 F g.q rate ms x 7 (T,b)).1 (mvF1 F g.q rate ms x 7 (T,b)).2):=gCut_runs hG (vqL_7 F ms b g rate x T) (vlL ..) (vcL ..) rfl
theorem vuM_7 : RunsTo Tryz.prog 130 vM (vSM ms 7 g mid x T X b) .normal (vSM ms 8 g mid x T (mvF2 F mid x T 7 (X,b)).1 (mvF2 F mid x T 7 (X,b)).2):=gCut_runs hG (vqM_7 F ms b g x T X mid) (vlM ..) (vcM ..) rfl
theorem vuL_8 : RunsTo Tryz.prog 130 vL (vSL ms 8 g rate x T b) .normal (vSL ms 9 g rate x (mvF1 F g.q rate ms x 8 (T,b)).1 (mvF1 F g.q rate ms x 8 (T,b)).2):=gCut_runs hG (vqL_8 F ms b g rate x T) (vlL ..) (vcL ..) rfl
theorem vuM_8 : RunsTo Tryz.prog 130 vM (vSM ms 8 g mid x T X b) .normal (vSM ms 9 g mid x T (mvF2 F mid x T 8 (X,b)).1 (mvF2 F mid x T 8 (X,b)).2):=gCut_runs hG (vqM_8 F ms b g x T X mid) (vlM ..) (vcM ..) rfl
theorem vuL_9 : RunsTo Tryz.prog 130 vL (vSL ms 9 g rate x T b) .normal (vSL ms 10 g rate x (mvF1 F g.q rate ms x 9 (T,b)).1 (mvF1 F g.q rate ms x 9 (T,b)).2):=gCut_runs hG (vqL_9 F ms b g rate x T) (vlL ..) (vcL ..) rfl
theorem vuM_9 : RunsTo Tryz.prog 130 vM (vSM ms 9 g mid x T X b) .normal (vSM ms 10 g mid x T (mvF2 F mid x T 9 (X,b)).1 (mvF2 F mid x T 9 (X,b)).2):=gCut_runs hG (vqM_9 F ms b g x T X mid) (vlM ..) (vcM ..) rfl
theorem vuL_10 : RunsTo Tryz.prog 130 vL (vSL ms 10 g rate x T b) .normal (vSL ms 11 g rate x (mvF1 F g.q rate ms x 10 (T,b)).1 (mvF1 F g.q rate ms x 10 (T,b)).2):=gCut_runs hG (vqL_10 F ms b g rate x T) (vlL ..) (vcL ..) rfl
theorem vuM_10 : RunsTo Tryz.prog 130 vM (vSM ms 10 g mid x T X b) .normal (vSM ms 11 g mid x T (mvF2 F mid x T 10 (X,b)).1 (mvF2 F mid x T 10 (X,b)).2):=gCut_runs hG (vqM_10 F ms b g x T X mid) (vlM ..) (vcM ..) rfl
theorem vuL_11 : RunsTo Tryz.prog 130 vL (vSL ms 11 g rate x T b) .normal (vSL ms 12 g rate x (mvF1 F g.q rate ms x 11 (T,b)).1 (mvF1 F g.q rate ms x 11 (T,b)).2):=gCut_runs hG (vqL_11 F ms b g rate x T) (vlL ..) (vcL ..) rfl
theorem vuM_11 : RunsTo Tryz.prog 130 vM (vSM ms 11 g mid x T X b) .normal (vSM ms 12 g mid x T (mvF2 F mid x T 11 (X,b)).1 (mvF2 F mid x T 11 (X,b)).2):=gCut_runs hG (vqM_11 F ms b g x T X mid) (vlM ..) (vcM ..) rfl
theorem vuL_12 : RunsTo Tryz.prog 130 vL (vSL ms 12 g rate x T b) .normal (vSL ms 13 g rate x (mvF1 F g.q rate ms x 12 (T,b)).1 (mvF1 F g.q rate ms x 12 (T,b)).2):=gCut_runs hG (vqL_12 F ms b g rate x T) (vlL ..) (vcL ..) rfl
theorem vuM_12 : RunsTo Tryz.prog 130 vM (vSM ms 12 g mid x T X b) .normal (vSM ms 13 g mid x T (mvF2 F mid x T 12 (X,b)).1 (mvF2 F mid x T 12 (X,b)).2):=gCut_runs hG (vqM_12 F ms b g x T X mid) (vlM ..) (vcM ..) rfl
theorem vuL_13 : RunsTo Tryz.prog 130 vL (vSL ms 13 g rate x T b) (.exit 0) (vSX ms g rate x T b):=gCut_runs hG (vqL_13 F ms b g rate x T) (vlL ..) (vcX ..) rfl
theorem vuM_13 : RunsTo Tryz.prog 130 vM (vSM ms 13 g mid x T X b) (.exit 4) (vSY ms g mid X b):=gCut_runs hG (vqM_13 F ms b g x T X mid) (vlM ..) (vcY ..) rfl
theorem vLoop : RunsTo Tryz.prog 130 (.block 0 (.loop vL)) (vSL ms 0 g rate x T b) .normal (vSX ms g rate x (iterF (mvF1 F g.q rate ms x) 0 13 (T,b)).1 (iterF (mvF1 F g.q rate ms x) 0 13 (T,b)).2) :=
  RunsTo.rounds (P:=Tryz.prog) (N:=130) (c:=vL) (id:=0) 13 (fun k z=>vSL ms k g rate x z.1 z.2) (fun z=>vSX ms g rate x z.1 z.2) (mvF1 F g.q rate ms x)
    (fun k z hk=>match k,hk with
      | 0,_=>vuL_0 hG ms z.2 g rate x z.1
      | 1,_=>vuL_1 hG ms z.2 g rate x z.1
      | 2,_=>vuL_2 hG ms z.2 g rate x z.1
      | 3,_=>vuL_3 hG ms z.2 g rate x z.1
      | 4,_=>vuL_4 hG ms z.2 g rate x z.1
      | 5,_=>vuL_5 hG ms z.2 g rate x z.1
      | 6,_=>vuL_6 hG ms z.2 g rate x z.1
      | 7,_=>vuL_7 hG ms z.2 g rate x z.1
      | 8,_=>vuL_8 hG ms z.2 g rate x z.1
      | 9,_=>vuL_9 hG ms z.2 g rate x z.1
      | 10,_=>vuL_10 hG ms z.2 g rate x z.1
      | 11,_=>vuL_11 hG ms z.2 g rate x z.1
      | 12,_=>vuL_12 hG ms z.2 g rate x z.1
      | n + 13,h=>absurd h (by omega))
    (fun z=>vuL_13 hG ms z.2 g rate x z.1) (T,b)
theorem vMoop : RunsTo Tryz.prog 130 (.block 4 (.loop vM)) (vSM ms 0 g mid x T X b) .normal (vSY ms g mid (iterF (mvF2 F mid x T) 0 13 (X,b)).1 (iterF (mvF2 F mid x T) 0 13 (X,b)).2) :=
  RunsTo.rounds (P:=Tryz.prog) (N:=130) (c:=vM) (id:=4) 13 (fun k z=>vSM ms k g mid x T z.1 z.2) (fun z=>vSY ms g mid z.1 z.2) (mvF2 F mid x T)
    (fun k z hk=>match k,hk with
      | 0,_=>vuM_0 hG ms z.2 g x T z.1 mid
      | 1,_=>vuM_1 hG ms z.2 g x T z.1 mid
      | 2,_=>vuM_2 hG ms z.2 g x T z.1 mid
      | 3,_=>vuM_3 hG ms z.2 g x T z.1 mid
      | 4,_=>vuM_4 hG ms z.2 g x T z.1 mid
      | 5,_=>vuM_5 hG ms z.2 g x T z.1 mid
      | 6,_=>vuM_6 hG ms z.2 g x T z.1 mid
      | 7,_=>vuM_7 hG ms z.2 g x T z.1 mid
      | 8,_=>vuM_8 hG ms z.2 g x T z.1 mid
      | 9,_=>vuM_9 hG ms z.2 g x T z.1 mid
      | 10,_=>vuM_10 hG ms z.2 g x T z.1 mid
      | 11,_=>vuM_11 hG ms z.2 g x T z.1 mid
      | 12,_=>vuM_12 hG ms z.2 g x T z.1 mid
      | n + 13,h=>absurd h (by omega))
    (fun z=>vuM_13 hG ms z.2 g x T z.1 mid) (X,b)
end
def moveB (ms : Int) (b : Bool) : Bool:=bif decide (ms < 10) then true else bif decide (ms > 10000) then true else b
def moveO (F : FOps) (b : Bool) (a : Gs × V3 × Int × Unit) : Gs × Bool :=
  let x:=F.pt (moveB a.2.2.1 b) (a.1,())
  let r:=F.vs x.2 (a.2.1,a.1.bias,())
  let z:=iterF (mvF1 F a.1.q r.1 a.2.2.1 x.1) 0 13 (mx0,r.2)
  let mid:=F.un z.2 (v4of (z.1 0),())
  let y:=iterF (mvF2 F mid.1 x.1 z.1) 0 13 (x.1.at,mid.2)
  let c:=F.cen y.2 (x13of y.1)
  let p:=F.pro c.2 c.1.x c.1.x
  let n:=mv3 F a.2.2.1 p.1 p.2
  let s:=F.st n.2 (mid.1,a.1.bias,c.1.m,n.1,())
  (s.1.a,s.2)
theorem move_runs {F : FOps} (hG : GamOk Tryz.prog (eM F).gam) (b : Bool) (a : Gs × V3 × Int × Unit) : RunsTo Tryz.prog 130 vC (startS 130 (.ptr 0 0 :: Args.encs a) (row 57 b)) .ret (vS29 (moveO F b a).1 (moveO F b a).2):=by
  obtain ⟨g,rate,ms,_⟩:=a
  have hc : vC = .seq v0 (.seq v1 (.seq v3 (.seq v4 (.seq v5 (.seq (.seq v6 (.block 0 (.loop vL))) (.seq v18 (.seq (.seq v19 (.block 4 (.loop vM))) (.seq v25 (.seq v26 (.seq v27 (.seq v28 v29))))))))))):=by
    unfold vC
    rw [vC_is]
    rfl
  rw [hc]
  have h1 : RunsTo Tryz.prog 130 v1 (vS0 ms b g rate) .normal (vS0 ms (moveB ms b) g rate):=by
    refine gRun_runs hG ((vq1 F ms b g rate).trans ?_)
    unfold moveB
    cases decide (ms < 10) <;> cases decide (ms > 10000) <;> rfl
  unfold moveO
  dsimp only
  have h3:=gRun_runs hG (vq3 F ms (moveB ms b) g rate)
  generalize F.pt (moveB ms b) (g,()) = x at h3 ⊢
  have h4:=gRun_runs hG (vq4 F ms x.2 g rate x.1)
  generalize F.vs x.2 (rate,g.bias,()) = r at h4 ⊢
  have h5:=gRun_runs hG (vq5 F ms r.2 g r.1 x.1)
  have h6:=(gRun_runs hG (vq6 F ms r.2 g r.1 x.1)).seq (vLoop hG ms r.2 g r.1 x.1 mx0)
  generalize iterF (mvF1 F g.q r.1 ms x.1) 0 13 (mx0,r.2) = z at h6 ⊢
  have h18:=gRun_runs hG (vq18 F ms z.2 g r.1 x.1 z.1)
  generalize F.un z.2 (v4of (z.1 0),()) = mid at h18 ⊢
  have h19:=(gRun_runs hG (vq19 F ms mid.2 g x.1 z.1 mid.1)).seq (vMoop hG ms mid.2 g x.1 z.1 x.1.at mid.1)
  generalize iterF (mvF2 F mid.1 x.1 z.1) 0 13 (x.1.at,mid.2) = y at h19 ⊢
  have h25:=gRun_runs hG (vq25 F ms y.2 g y.1 mid.1)
  generalize F.cen y.2 (x13of y.1) = c at h25 ⊢
  have h26:=gRun_runs hG (vq26 F ms c.2 g c.1.x mid.1 c.1.m)
  generalize F.pro c.2 c.1.x c.1.x = p at h26 ⊢
  have h27:=gRun_runs hG (vq27 F ms p.2 g c.1.x mid.1 c.1.m p.1)
  generalize mv3 F ms p.1 p.2 = n at h27 ⊢
  have h28:=gRun_runs hG (vq28 F ms n.2 g c.1.x mid.1 c.1.m n.1)
  generalize F.st n.2 (mid.1,g.bias,c.1.m,n.1,()) = s at h28 ⊢
  have h29:=gRun_runs hG (vq29 F s.2 s.1.a)
  exact (gRun_runs hG (vq0 F ms b g rate)).seq (h1.seq (h3.seq (h4.seq (h5.seq (h6.seq (h18.seq (h19.seq (h25.seq (h26.seq (h27.seq (h28.seq h29)))))))))))
theorem f49_is : Tryz.prog.funcs[49]? = some Tryz.f49:=by kernel_rfl
theorem okMove {F : FOps} (hG : GamOk Tryz.prog (eM F).gam) : SumOk Tryz.prog 49 (S 57 (moveO F)):=by
  intro args cs r cs' h
  obtain ⟨b,a,rfl,rfl,rfl,rfl⟩:=S_sel h
  obtain ⟨g,rate,ms,u⟩:=a
  refine sum_runs f49_is (c:=vC) (by unfold vC; rw [vC_is]; rfl) vN (by show 4 ≤ 130; omega) (by simp [row]) rfl rfl rfl (.inr rfl) (move_runs hG b (g,rate,ms,u)) (vR ..) rfl rfl (fun b' c hb=>?_) rfl rfl
  match b',hb with
  | 0,hb=>cases hb; rfl
  | n + 1,hb=>simp [row] at hb
end Go.Ab
namespace Go.Ab
open Go Go.Proofs
structure GOps where
  o : Ops
  vu : Bool→V3 × Unit→V3 × Bool
  tu : TFun
  qt : Bool→V4 × V3 × Unit→V3 × Bool
  pt : Bool→Gs × Unit→X13 × Bool
  cen : CFun
  pro : PFun
  ont : OFun
  rt : Bool→M6 × Int × Unit→M6 × Bool
  so : Bool→M6 × R6 × Int × Unit→R6 × Bool
  ap : Bool→M6 × R6 × Int × Unit→R6 × Bool
  st : Bool→V4 × V3 × R6 × M6 × Unit→Two Gs Bool × Bool
def gamMe (F : GOps) : Gam:=[(51,S 57 F.vu),(54,S 57 F.tu),(56,S 57 F.qt),(52,S 57 F.pt),(57,ctrS F.cen),(58,prdS F.pro),(59,ontS F.ont),(61,S 57 F.rt),(62,S 57 F.so),(67,S 57 F.ap),(66,S 57 F.st),(53,S0 fun (p : R6 × Unit)=>halvesV p.1),(55,S0 fun (p : V3 × V3 × Unit)=>joinV p.1 p.2.1),(63,S 57 (op2 F.o.add)),(60,S 57 (op2 F.o.sub)),(64,S 57 (op2 F.o.mul)),(65,S 57 (op3 F.o.part))]
abbrev eE (F : GOps) : Env:={ gam:=gamMe F }
def P2.av (p : P2) : List AV:=p.a.av ++ p.b.av
noncomputable def wT0 : Code:=Tryz.f21.body.getD .skip
noncomputable def w0 : Code:=(seqL wT0)
noncomputable def wT1 : Code:=seqR wT0
noncomputable def w1 : Code:=seqL (seqL wT1)
noncomputable def wA : Code:=inB (inB (seqR (seqL wT1)))
noncomputable def wT2 : Code:=seqR wT1
noncomputable def w6 : Code:=(seqL wT2)
noncomputable def wT3 : Code:=seqR wT2
noncomputable def w7 : Code:=(seqL wT3)
noncomputable def wT4 : Code:=seqR wT3
noncomputable def w8 : Code:=seqL (seqL wT4)
noncomputable def wB : Code:=inB (inB (seqR (seqL wT4)))
noncomputable def wT5 : Code:=seqR wT4
noncomputable def w15 : Code:=(seqL wT5)
noncomputable def wT6 : Code:=seqR wT5
noncomputable def w16 : Code:=(seqL wT6)
noncomputable def wT7 : Code:=seqR wT6
noncomputable def w17 : Code:=(seqL wT7)
noncomputable def wT8 : Code:=seqR wT7
noncomputable def w18 : Code:=(seqL wT8)
noncomputable def wT9 : Code:=seqR wT8
noncomputable def w19 : Code:=seqL (seqL wT9)
noncomputable def wD : Code:=inB (inB (seqR (seqL wT9)))
noncomputable def wT10 : Code:=seqR wT9
noncomputable def w24 : Code:=(seqL wT10)
noncomputable def wT11 : Code:=seqR wT10
noncomputable def w25 : Code:=(seqL wT11)
noncomputable def wT12 : Code:=seqR wT11
noncomputable def w26 : Code:=seqL (seqL wT12)
noncomputable def wE : Code:=inB (inB (seqR (seqL wT12)))
noncomputable def wT13 : Code:=seqR wT12
noncomputable def w31 : Code:=(seqL wT13)
noncomputable def wT14 : Code:=seqR wT13
noncomputable def w33 : Code:=(seqL wT14)
noncomputable def wT15 : Code:=seqR wT14
noncomputable def w35 : Code:=(seqL wT15)
noncomputable def wT16 : Code:=seqR wT15
noncomputable def w36 : Code:=seqL (seqL wT16)
noncomputable def wF : Code:=inB (inB (seqR (seqL wT16)))
noncomputable def wT17 : Code:=seqR wT16
noncomputable def w41 : Code:=seqL (seqL wT17)
noncomputable def wG : Code:=inB (inB (seqR (seqL wT17)))
noncomputable def wT18 : Code:=seqR wT17
noncomputable def w56 : Code:=seqL (seqL wT18)
noncomputable def wH : Code:=inB (inB (seqR (seqL wT18)))
noncomputable def wT19 : Code:=seqR wT18
noncomputable def w65 : Code:=(seqL wT19)
noncomputable def wT20 : Code:=seqR wT19
noncomputable def w66 : Code:=(seqL wT20)
noncomputable def wT21 : Code:=seqR wT20
noncomputable def w68 : Code:=wT21
theorem wC_is : Tryz.f21.body = some (.seq w0 (.seq (.seq w1 (.block 0 (.loop wA))) (.seq w6 (.seq w7 (.seq (.seq w8 (.block 2 (.loop wB))) (.seq w15 (.seq w16 (.seq w17 (.seq w18 (.seq (.seq w19 (.block 4 (.loop wD))) (.seq w24 (.seq w25 (.seq (.seq w26 (.block 6 (.loop wE))) (.seq w31 (.seq w33 (.seq w35 (.seq (.seq w36 (.block 8 (.loop wF))) (.seq (.seq w41 (.block 10 (.loop wG))) (.seq (.seq w56 (.block 16 (.loop wH))) (.seq w65 (.seq w66 w68))))))))))))))))))))):=by kernel_rfl
noncomputable def wGa : Code:=seqL wG
noncomputable def wGb : Code:=seqL (seqR wG)
noncomputable def wGi : Code:=inB (seqL (seqR (seqR wG)))
noncomputable def w43 : Code:=seqL wGi
noncomputable def w44 : Code:=seqL (seqR wGi)
noncomputable def wGL : Code:=inB (inB (seqR (seqR wGi)))
noncomputable def w55 : Code:=seqR (seqR (seqR wG))
theorem wG_is : wG = .seq wGa (.seq wGb (.seq (.block 11 (.seq w43 (.seq w44 (.block 12 (.loop wGL))))) w55)):=by kernel_rfl
theorem wN : Tryz.f21.ntmps = 248:=by kernel_rfl
abbrev nK : Nat:=4096 + 10 * 2 ^ 180
abbrev nL : Nat:=4096 + 11 * 2 ^ 180
abbrev nM : Nat:=4096 + 12 * 2 ^ 180
abbrev nN : Nat:=4096 + 13 * 2 ^ 180
abbrev nO : Nat:=4096 + 14 * 2 ^ 180
abbrev nP : Nat:=4096 + 15 * 2 ^ 180
def wS0 (g : Gs) (sky body : P2) (b : Bool) : St:=gSt 248 [(0,.ptr 0 0),(5,.ptr nA 0),(6,.ptr nB 0),(7,.ptr nC 0),(8,.ptr nD 0)] [(0,.row 57 [.val (.bool b)]),(nA,.row 42 g.av),(nB,.row 54 sky.av),(nC,.row 54 body.av),(nD,.row 42 Gs.zero.av)] nE
def wSA (i : Int) (g : Gs) (sky body : P2) (b : Bool) : St:=gSt 248 [(0,.ptr 0 0),(5,.ptr nA 0),(6,.ptr nB 0),(7,.ptr nC 0),(8,.ptr nD 0),(40,.val (.int .i64 i))] [(0,.row 57 [.val (.bool b)]),(nA,.row 42 g.av),(nB,.row 54 sky.av),(nC,.row 54 body.av),(nD,.row 42 Gs.zero.av)] nE
def wS6 (g : Gs) (sky body : P2) (x : X13) (b : Bool) : St:=gSt 248 [(0,.ptr 0 0),(5,.ptr nA 0),(6,.ptr nB 0),(7,.ptr nC 0),(8,.ptr nD 0),(12,.ptr nE 0)] [(0,.row 57 [.val (.bool b)]),(nA,.row 42 g.av),(nB,.row 54 sky.av),(nC,.row 54 body.av),(nD,.row 42 Gs.zero.av),(nE,.row 112 x.av)] nF
def wS7 (g : Gs) (sky body : P2) (x : X13) (z : Mx) (b : Bool) : St:=gSt 248 [(0,.ptr 0 0),(5,.ptr nA 0),(6,.ptr nB 0),(7,.ptr nC 0),(8,.ptr nD 0),(12,.ptr nE 0),(13,.ptr nF 0)] [(0,.row 57 [.val (.bool b)]),(nA,.row 42 g.av),(nB,.row 54 sky.av),(nC,.row 54 body.av),(nD,.row 42 Gs.zero.av),(nE,.row 112 x.av),(nF,.row 112 (cells13 z))] nG
def wSB (k : Int) (g : Gs) (sky body : P2) (x : X13) (z : Mx) (b : Bool) : St:=gSt 248 [(0,.ptr 0 0),(5,.ptr nA 0),(6,.ptr nB 0),(7,.ptr nC 0),(8,.ptr nD 0),(12,.ptr nE 0),(13,.ptr nF 0),(61,.val (Cod.enc x)),(62,.val (.int .i64 k))] [(0,.row 57 [.val (.bool b)]),(nA,.row 42 g.av),(nB,.row 54 sky.av),(nC,.row 54 body.av),(nD,.row 42 Gs.zero.av),(nE,.row 112 x.av),(nF,.row 112 (cells13 z))] nG
def wS15 (g : Gs) (body : P2) (x z : X13) (m : R6) (b : Bool) : St:=gSt 248 [(0,.ptr 0 0),(5,.ptr nA 0),(7,.ptr nC 0),(8,.ptr nD 0),(12,.ptr nE 0),(13,.ptr nF 0),(19,.ptr nG 0)] [(0,.row 57 [.val (.bool b)]),(nA,.row 42 g.av),(nC,.row 54 body.av),(nD,.row 42 Gs.zero.av),(nE,.row 112 x.av),(nF,.row 112 z.av),(nG,.row 38 m.av)] nH
def wS16 (g : Gs) (body : P2) (m : R6) (s c : M6) (b : Bool) : St:=gSt 248 [(0,.ptr 0 0),(5,.ptr nA 0),(7,.ptr nC 0),(8,.ptr nD 0),(19,.ptr nG 0),(20,.ptr nH 0),(21,.ptr nI 0)] [(0,.row 57 [.val (.bool b)]),(nA,.row 42 g.av),(nC,.row 54 body.av),(nD,.row 42 Gs.zero.av),(nG,.row 38 m.av),(nH,.row 40 s.av),(nI,.row 40 c.av)] nJ
def wS18 (g : Gs) (m : R6) (s c : M6) (y : Nat→Int) (b : Bool) : St:=gSt 248 [(0,.ptr 0 0),(5,.ptr nA 0),(8,.ptr nD 0),(19,.ptr nG 0),(20,.ptr nH 0),(21,.ptr nI 0),(22,.ptr nJ 0)] [(0,.row 57 [.val (.bool b)]),(nA,.row 42 g.av),(nD,.row 42 Gs.zero.av),(nG,.row 38 m.av),(nH,.row 40 s.av),(nI,.row 40 c.av),(nJ,.row 38 (ints 6 y))] nK
def wSD (i : Int) (g : Gs) (m : R6) (s c : M6) (y : Nat→Int) (b : Bool) : St:=gSt 248 [(0,.ptr 0 0),(5,.ptr nA 0),(8,.ptr nD 0),(19,.ptr nG 0),(20,.ptr nH 0),(21,.ptr nI 0),(22,.ptr nJ 0),(103,.val (.int .i64 i))] [(0,.row 57 [.val (.bool b)]),(nA,.row 42 g.av),(nD,.row 42 Gs.zero.av),(nG,.row 38 m.av),(nH,.row 40 s.av),(nI,.row 40 c.av),(nJ,.row 38 (ints 6 y))] nK
def wS24 (g : Gs) (c : M6) (y : R6) (l : M6) (b : Bool) : St:=gSt 248 [(0,.ptr 0 0),(5,.ptr nA 0),(8,.ptr nD 0),(21,.ptr nI 0),(22,.ptr nJ 0),(24,.ptr nK 0)] [(0,.row 57 [.val (.bool b)]),(nA,.row 42 g.av),(nD,.row 42 Gs.zero.av),(nI,.row 40 c.av),(nJ,.row 38 y.av),(nK,.row 40 l.av)] nL
def wS25 (g : Gs) (c : M6) (y : R6) (l : M6) (chi : Int) (b : Bool) : St:=gSt 248 [(0,.ptr 0 0),(5,.ptr nA 0),(8,.ptr nD 0),(21,.ptr nI 0),(22,.ptr nJ 0),(24,.ptr nK 0),(25,.val (.int .i64 chi))] [(0,.row 57 [.val (.bool b)]),(nA,.row 42 g.av),(nD,.row 42 Gs.zero.av),(nI,.row 40 c.av),(nJ,.row 38 y.av),(nK,.row 40 l.av)] nL
def wSE (i : Int) (g : Gs) (c : M6) (y : R6) (l : M6) (u : R6) (chi : Int) (b : Bool) : St:=gSt 248 [(0,.ptr 0 0),(5,.ptr nA 0),(8,.ptr nD 0),(21,.ptr nI 0),(22,.ptr nJ 0),(24,.ptr nK 0),(25,.val (.int .i64 chi)),(123,.val (Cod.enc u)),(124,.val (.int .i64 i))] [(0,.row 57 [.val (.bool b)]),(nA,.row 42 g.av),(nD,.row 42 Gs.zero.av),(nI,.row 40 c.av),(nJ,.row 38 y.av),(nK,.row 40 l.av)] nL
def wS35 (g : Gs) (c : M6) (y : R6) (l : M6) (chi : Int) (k T p : Mx) (b : Bool) : St:=gSt 248 [(0,.ptr 0 0),(5,.ptr nA 0),(8,.ptr nD 0),(21,.ptr nI 0),(22,.ptr nJ 0),(24,.ptr nK 0),(25,.val (.int .i64 chi)),(28,.ptr nL 0),(29,.ptr nM 0),(30,.ptr nN 0)] [(0,.row 57 [.val (.bool b)]),(nA,.row 42 g.av),(nD,.row 42 Gs.zero.av),(nI,.row 40 c.av),(nJ,.row 38 y.av),(nK,.row 40 l.av),(nL,.row 40 (cells36 k)),(nM,.row 40 (cells36 T)),(nN,.row 40 (cells36 p))] nO
def wSF (i : Int) (g : Gs) (c : M6) (y : R6) (l : M6) (chi : Int) (k T p : Mx) (b : Bool) : St:=gSt 248 [(0,.ptr 0 0),(5,.ptr nA 0),(8,.ptr nD 0),(21,.ptr nI 0),(22,.ptr nJ 0),(24,.ptr nK 0),(25,.val (.int .i64 chi)),(28,.ptr nL 0),(29,.ptr nM 0),(30,.ptr nN 0),(151,.val (.int .i64 i))] [(0,.row 57 [.val (.bool b)]),(nA,.row 42 g.av),(nD,.row 42 Gs.zero.av),(nI,.row 40 c.av),(nJ,.row 38 y.av),(nK,.row 40 l.av),(nL,.row 40 (cells36 k)),(nM,.row 40 (cells36 T)),(nN,.row 40 (cells36 p))] nO
def wSG (i : Int) (g : Gs) (c : M6) (y : R6) (l : M6) (chi : Int) (k T p : Mx) (b : Bool) : St:=gSt 248 [(0,.ptr 0 0),(5,.ptr nA 0),(8,.ptr nD 0),(21,.ptr nI 0),(22,.ptr nJ 0),(24,.ptr nK 0),(25,.val (.int .i64 chi)),(28,.ptr nL 0),(29,.ptr nM 0),(30,.ptr nN 0),(163,.val (.int .i64 i))] [(0,.row 57 [.val (.bool b)]),(nA,.row 42 g.av),(nD,.row 42 Gs.zero.av),(nI,.row 40 c.av),(nJ,.row 38 y.av),(nK,.row 40 l.av),(nL,.row 40 (cells36 k)),(nM,.row 40 (cells36 T)),(nN,.row 40 (cells36 p))] nO
def wSg (i : Int) (g : Gs) (c : M6) (y : R6) (l : M6) (chi : Int) (k T p : Mx) (b : Bool) : St:=gSt 248 [(0,.ptr 0 0),(5,.ptr nA 0),(8,.ptr nD 0),(21,.ptr nI 0),(22,.ptr nJ 0),(24,.ptr nK 0),(25,.val (.int .i64 chi)),(28,.ptr nL 0),(29,.ptr nM 0),(30,.ptr nN 0),(163,.val (.int .i64 i)),(164,.val (.bool true))] [(0,.row 57 [.val (.bool b)]),(nA,.row 42 g.av),(nD,.row 42 Gs.zero.av),(nI,.row 40 c.av),(nJ,.row 38 y.av),(nK,.row 40 l.av),(nL,.row 40 (cells36 k)),(nM,.row 40 (cells36 T)),(nN,.row 40 (cells36 p))] nO
def wSx (i : Int) (g : Gs) (c : M6) (y : R6) (l : M6) (chi : Int) (k T p : Mx) (b : Bool) : St:=gSt 248 [(0,.ptr 0 0),(5,.ptr nA 0),(8,.ptr nD 0),(21,.ptr nI 0),(22,.ptr nJ 0),(24,.ptr nK 0),(25,.val (.int .i64 chi)),(28,.ptr nL 0),(29,.ptr nM 0),(30,.ptr nN 0),(32,.val (.int .i64 i)),(163,.val (.int .i64 i))] [(0,.row 57 [.val (.bool b)]),(nA,.row 42 g.av),(nD,.row 42 Gs.zero.av),(nI,.row 40 c.av),(nJ,.row 38 y.av),(nK,.row 40 l.av),(nL,.row 40 (cells36 k)),(nM,.row 40 (cells36 T)),(nN,.row 40 (cells36 p))] nO
def wSJ (i j : Int) (g : Gs) (c : M6) (y : R6) (l : M6) (chi : Int) (k T p : Mx) (b : Bool) : St:=gSt 248 [(0,.ptr 0 0),(5,.ptr nA 0),(8,.ptr nD 0),(21,.ptr nI 0),(22,.ptr nJ 0),(24,.ptr nK 0),(25,.val (.int .i64 chi)),(28,.ptr nL 0),(29,.ptr nM 0),(30,.ptr nN 0),(32,.val (.int .i64 i)),(163,.val (.int .i64 i)),(166,.val (.int .i64 j))] [(0,.row 57 [.val (.bool b)]),(nA,.row 42 g.av),(nD,.row 42 Gs.zero.av),(nI,.row 40 c.av),(nJ,.row 38 y.av),(nK,.row 40 l.av),(nL,.row 40 (cells36 k)),(nM,.row 40 (cells36 T)),(nN,.row 40 (cells36 p))] nO
def wSH (i : Int) (g : Gs) (c : M6) (y : R6) (l : M6) (chi : Int) (k T p : Mx) (b : Bool) : St:=gSt 248 [(0,.ptr 0 0),(5,.ptr nA 0),(8,.ptr nD 0),(21,.ptr nI 0),(22,.ptr nJ 0),(24,.ptr nK 0),(25,.val (.int .i64 chi)),(28,.ptr nL 0),(29,.ptr nM 0),(30,.ptr nN 0),(203,.val (.int .i64 i))] [(0,.row 57 [.val (.bool b)]),(nA,.row 42 g.av),(nD,.row 42 Gs.zero.av),(nI,.row 40 c.av),(nJ,.row 38 y.av),(nK,.row 40 l.av),(nL,.row 40 (cells36 k)),(nM,.row 40 (cells36 T)),(nN,.row 40 (cells36 p))] nO
def wS65 (chi : Int) (ok : Bool) (g : Gs) (b : Bool) : St:=gSt 248 [(0,.ptr 0 0),(8,.ptr nD 0),(25,.val (.int .i64 chi)),(38,.ptr nO 0),(39,.val (.bool ok))] [(0,.row 57 [.val (.bool b)]),(nD,.row 42 Gs.zero.av),(nO,.row 42 g.av)] nP
def wR (g : Gs) (chi : Int) (ok : Bool) (b : Bool) : St:=gSt 248 [(0,.ptr 0 0),(8,.ptr nD 0),(9,.val (.int .i64 chi)),(10,.val (.bool ok))] [(0,.row 57 [.val (.bool b)]),(nD,.row 42 g.av)] nL
def wR2 (g : Gs) (chi : Int) (ok : Bool) (b : Bool) : St:=gSt 248 [(0,.ptr 0 0),(8,.ptr nD 0),(9,.val (.int .i64 chi)),(10,.val (.bool ok))] [(0,.row 57 [.val (.bool b)]),(nD,.row 42 g.av)] nP
def meA0 (F : GOps) (sky body : P2) (b : Bool) : (P2 × P2) × Bool :=
  let p:=F.vu b (sky.a,())
  let q:=F.vu p.2 (body.a,())
  ((⟨p.1,sky.b⟩,⟨q.1,body.b⟩),q.2)
def meA1 (F : GOps) (sky body : P2) (b : Bool) : (P2 × P2) × Bool :=
  let p:=F.vu b (sky.b,())
  let q:=F.vu p.2 (body.b,())
  ((⟨sky.a,p.1⟩,⟨body.a,q.1⟩),q.2)
def meB (F : GOps) (q : V4) (sky : P2) (r : R6) (b : Bool) : R6 × Bool :=
  let a:=F.tu b ((halvesV r).a,q,())
  let p:=F.qt a.2 (a.1,sky.a,())
  let e:=F.qt p.2 (a.1,sky.b,())
  (joinV p.1 e.1,e.2)
def meE (F : GOps) (chi p q : Int) (b : Bool) : Int × Bool :=
  let n:=F.o.mul b p q
  F.o.add n.2 chi n.1
def meS (o : Ops) (u v : Nat→Int) : Nat→Nat→Int × Bool→Int × Bool
  | _,0,s=>s
  | a,n + 1,s=>meS o u v (a + 1) n (let n:=o.mul s.2 (u a) (v a); o.add n.2 s.1 n.1)
def meT (F : GOps) (P : Mx) (k c : Mx) (i j : Nat) (b : Bool) : Int × Bool :=
  let s:=meS F.o (k i) (c j) 0 6 (0,b)
  F.o.sub s.2 (P i j) s.1
def meH (o : Ops) (T : Mx) (i : Nat) : Nat→Nat→Mx × Bool→Mx × Bool
  | _,0,s=>s
  | j,n + 1,s=>meH o T i (j + 1) n (let a:=o.add s.2 (T i j) (T j i); let h:=o.part a.2 a.1 1 2; (setM s.1 i j h.1,h.2))
def meZ (F : GOps) (g : Gs) (y : R6) (k p : Mx) (b : Bool) : Two Gs Bool × Bool :=
  let a:=F.ap b (M6.of k,y,6,())
  F.st a.2 (g.q,g.bias,a.1,M6.of p,())
end Go.Ab
namespace Go.Ab
open Go Go.Proofs
section
variable (F : GOps) (b : Bool) (g g' : Gs) (sky body : P2) (x z : X13) (Z : Mx) (m y u : R6) (s c l : M6) (Y : Nat→Int) (chi : Int) (k T p : Mx) (ok : Bool) (i j : Int)
theorem wq0 : gRun Tryz.prog (eE F) 248 w0 (startS 248 [.ptr 0 0,.val (Cod.enc g),.val (Cod.enc sky),.val (Cod.enc body)] (row 57 b)) [0,nA,nB,nC,nD] [0,5,6,7,8] = some (.normal,wS0 g sky body b):=by kernel_rfl
theorem wq1 : gRun Tryz.prog (eE F) 248 w1 (wS0 g sky body b) [0,nA,nB,nC,nD] [0,5,6,7,8,40] = some (.normal,wSA 0 g sky body b):=by kernel_rfl
theorem wqA_0 : gCut Tryz.prog (eE F) 248 wA (wSA 0 g sky body b) nE [0,nA,nB,nC,nD] [0,5,6,7,8,40] = some (.normal,wSA 1 g (meA0 F sky body b).1.1 (meA0 F sky body b).1.2 (meA0 F sky body b).2):=by kernel_rfl
theorem wqA_1 : gCut Tryz.prog (eE F) 248 wA (wSA 1 g sky body b) nE [0,nA,nB,nC,nD] [0,5,6,7,8,40] = some (.normal,wSA 2 g (meA1 F sky body b).1.1 (meA1 F sky body b).1.2 (meA1 F sky body b).2):=by kernel_rfl
theorem wqA_2 : gCut Tryz.prog (eE F) 248 wA (wSA 2 g sky body b) nE [0,nA,nB,nC,nD] [0,5,6,7,8] = some (.exit 0,wS0 g sky body b):=by kernel_rfl
theorem wq6 : gRun Tryz.prog (eE F) 248 w6 (wS0 g sky body b) [0,nA,nB,nC,nD,nE] [0,5,6,7,8,12] = some (.normal,wS6 g sky body (F.pt b (g,())).1 (F.pt b (g,())).2):=by kernel_rfl
theorem wq7 : gRun Tryz.prog (eE F) 248 w7 (wS6 g sky body x b) [0,nA,nB,nC,nD,nE,nF] [0,5,6,7,8,12,13] = some (.normal,wS7 g sky body x mx0 b):=by kernel_rfl
theorem wq8 : gRun Tryz.prog (eE F) 248 w8 (wS7 g sky body x Z b) [0,nA,nB,nC,nD,nE,nF] [0,5,6,7,8,12,13,61,62] = some (.normal,wSB 0 g sky body x Z b):=by kernel_rfl
theorem wqB_0 : gCut Tryz.prog (eE F) 248 wB (wSB 0 g sky body x Z b) nG [0,nA,nB,nC,nD,nE,nF] [0,5,6,7,8,12,13,61,62] = some (.normal,wSB 1 g sky body x (setX Z 0 (meB F g.q sky (x.row 0) b).1) (meB F g.q sky (x.row 0) b).2):=by kernel_rfl
theorem wqB_1 : gCut Tryz.prog (eE F) 248 wB (wSB 1 g sky body x Z b) nG [0,nA,nB,nC,nD,nE,nF] [0,5,6,7,8,12,13,61,62] = some (.normal,wSB 2 g sky body x (setX Z 1 (meB F g.q sky (x.row 1) b).1) (meB F g.q sky (x.row 1) b).2):=by kernel_rfl
theorem wqB_2 : gCut Tryz.prog (eE F) 248 wB (wSB 2 g sky body x Z b) nG [0,nA,nB,nC,nD,nE,nF] [0,5,6,7,8,12,13,61,62] = some (.normal,wSB 3 g sky body x (setX Z 2 (meB F g.q sky (x.row 2) b).1) (meB F g.q sky (x.row 2) b).2):=by kernel_rfl
theorem wqB_3 : gCut Tryz.prog (eE F) 248 wB (wSB 3 g sky body x Z b) nG [0,nA,nB,nC,nD,nE,nF] [0,5,6,7,8,12,13,61,62] = some (.normal,wSB 4 g sky body x (setX Z 3 (meB F g.q sky (x.row 3) b).1) (meB F g.q sky (x.row 3) b).2):=by kernel_rfl
theorem wqB_4 : gCut Tryz.prog (eE F) 248 wB (wSB 4 g sky body x Z b) nG [0,nA,nB,nC,nD,nE,nF] [0,5,6,7,8,12,13,61,62] = some (.normal,wSB 5 g sky body x (setX Z 4 (meB F g.q sky (x.row 4) b).1) (meB F g.q sky (x.row 4) b).2):=by kernel_rfl
theorem wqB_5 : gCut Tryz.prog (eE F) 248 wB (wSB 5 g sky body x Z b) nG [0,nA,nB,nC,nD,nE,nF] [0,5,6,7,8,12,13,61,62] = some (.normal,wSB 6 g sky body x (setX Z 5 (meB F g.q sky (x.row 5) b).1) (meB F g.q sky (x.row 5) b).2):=by kernel_rfl
theorem wqB_6 : gCut Tryz.prog (eE F) 248 wB (wSB 6 g sky body x Z b) nG [0,nA,nB,nC,nD,nE,nF] [0,5,6,7,8,12,13,61,62] = some (.normal,wSB 7 g sky body x (setX Z 6 (meB F g.q sky (x.row 6) b).1) (meB F g.q sky (x.row 6) b).2):=by kernel_rfl
theorem wqB_7 : gCut Tryz.prog (eE F) 248 wB (wSB 7 g sky body x Z b) nG [0,nA,nB,nC,nD,nE,nF] [0,5,6,7,8,12,13,61,62] = some (.normal,wSB 8 g sky body x (setX Z 7 (meB F g.q sky (x.row 7) b).1) (meB F g.q sky (x.row 7) b).2):=by kernel_rfl
theorem wqB_8 : gCut Tryz.prog (eE F) 248 wB (wSB 8 g sky body x Z b) nG [0,nA,nB,nC,nD,nE,nF] [0,5,6,7,8,12,13,61,62] = some (.normal,wSB 9 g sky body x (setX Z 8 (meB F g.q sky (x.row 8) b).1) (meB F g.q sky (x.row 8) b).2):=by kernel_rfl
theorem wqB_9 : gCut Tryz.prog (eE F) 248 wB (wSB 9 g sky body x Z b) nG [0,nA,nB,nC,nD,nE,nF] [0,5,6,7,8,12,13,61,62] = some (.normal,wSB 10 g sky body x (setX Z 9 (meB F g.q sky (x.row 9) b).1) (meB F g.q sky (x.row 9) b).2):=by kernel_rfl
theorem wqB_10 : gCut Tryz.prog (eE F) 248 wB (wSB 10 g sky body x Z b) nG [0,nA,nB,nC,nD,nE,nF] [0,5,6,7,8,12,13,61,62] = some (.normal,wSB 11 g sky body x (setX Z 10 (meB F g.q sky (x.row 10) b).1) (meB F g.q sky (x.row 10) b).2):=by kernel_rfl
theorem wqB_11 : gCut Tryz.prog (eE F) 248 wB (wSB 11 g sky body x Z b) nG [0,nA,nB,nC,nD,nE,nF] [0,5,6,7,8,12,13,61,62] = some (.normal,wSB 12 g sky body x (setX Z 11 (meB F g.q sky (x.row 11) b).1) (meB F g.q sky (x.row 11) b).2):=by kernel_rfl
theorem wqB_12 : gCut Tryz.prog (eE F) 248 wB (wSB 12 g sky body x Z b) nG [0,nA,nB,nC,nD,nE,nF] [0,5,6,7,8,12,13,61,62] = some (.normal,wSB 13 g sky body x (setX Z 12 (meB F g.q sky (x.row 12) b).1) (meB F g.q sky (x.row 12) b).2):=by kernel_rfl
theorem wqB_13 : gCut Tryz.prog (eE F) 248 wB (wSB 13 g sky body x Z b) nG [0,nA,nB,nC,nD,nE,nF] [0,5,6,7,8,12,13] = some (.exit 2,wS7 g sky body x Z b):=by kernel_rfl
theorem wq15 : gRun Tryz.prog (eE F) 248 w15 (wS7 g sky body x Z b) [0,nA,nC,nD,nE,nF,nG] [0,5,7,8,12,13,19] = some (.normal,wS15 g body x (F.cen b (x13of Z)).1.x (F.cen b (x13of Z)).1.m (F.cen b (x13of Z)).2):=by kernel_rfl
theorem wq16 : gRun Tryz.prog (eE F) 248 w16 (wS15 g body x z m b) [0,nA,nC,nD,nG,nH,nI] [0,5,7,8,19,20,21] = some (.normal,wS16 g body m (F.pro b z z).1 (F.pro (F.pro b z z).2 x z).1 (F.pro (F.pro b z z).2 x z).2):=by kernel_rfl
theorem wq17 : gRun Tryz.prog (eE F) 248 w17 (wS16 g body m s c b) [0,nA,nC,nD,nG,nH,nI] [0,5,7,8,19,20,21] = some (.normal,wS16 g body m (F.ont b s 67108864 268435456).1 c (F.ont b s 67108864 268435456).2):=by kernel_rfl
theorem wq18 : gRun Tryz.prog (eE F) 248 w18 (wS16 g body m s c b) [0,nA,nD,nG,nH,nI,nJ] [0,5,8,19,20,21,22] = some (.normal,wS18 g m s c (joinV body.a body.b).at b):=by kernel_rfl
theorem wq19 : gRun Tryz.prog (eE F) 248 w19 (wS18 g m s c Y b) [0,nA,nD,nG,nH,nI,nJ] [0,5,8,19,20,21,22,103] = some (.normal,wSD 0 g m s c Y b):=by kernel_rfl
theorem wqD_0 : gCut Tryz.prog (eE F) 248 wD (wSD 0 g m s c Y b) nK [0,nA,nD,nG,nH,nI,nJ] [0,5,8,19,20,21,22,103] = some (.normal,wSD 1 g m s c (setR Y 0 (F.o.sub b (Y 0) (m.at 0)).1) (F.o.sub b (Y 0) (m.at 0)).2):=by kernel_rfl
theorem wqD_1 : gCut Tryz.prog (eE F) 248 wD (wSD 1 g m s c Y b) nK [0,nA,nD,nG,nH,nI,nJ] [0,5,8,19,20,21,22,103] = some (.normal,wSD 2 g m s c (setR Y 1 (F.o.sub b (Y 1) (m.at 1)).1) (F.o.sub b (Y 1) (m.at 1)).2):=by kernel_rfl
theorem wqD_2 : gCut Tryz.prog (eE F) 248 wD (wSD 2 g m s c Y b) nK [0,nA,nD,nG,nH,nI,nJ] [0,5,8,19,20,21,22,103] = some (.normal,wSD 3 g m s c (setR Y 2 (F.o.sub b (Y 2) (m.at 2)).1) (F.o.sub b (Y 2) (m.at 2)).2):=by kernel_rfl
theorem wqD_3 : gCut Tryz.prog (eE F) 248 wD (wSD 3 g m s c Y b) nK [0,nA,nD,nG,nH,nI,nJ] [0,5,8,19,20,21,22,103] = some (.normal,wSD 4 g m s c (setR Y 3 (F.o.sub b (Y 3) (m.at 3)).1) (F.o.sub b (Y 3) (m.at 3)).2):=by kernel_rfl
theorem wqD_4 : gCut Tryz.prog (eE F) 248 wD (wSD 4 g m s c Y b) nK [0,nA,nD,nG,nH,nI,nJ] [0,5,8,19,20,21,22,103] = some (.normal,wSD 5 g m s c (setR Y 4 (F.o.sub b (Y 4) (m.at 4)).1) (F.o.sub b (Y 4) (m.at 4)).2):=by kernel_rfl
theorem wqD_5 : gCut Tryz.prog (eE F) 248 wD (wSD 5 g m s c Y b) nK [0,nA,nD,nG,nH,nI,nJ] [0,5,8,19,20,21,22,103] = some (.normal,wSD 6 g m s c (setR Y 5 (F.o.sub b (Y 5) (m.at 5)).1) (F.o.sub b (Y 5) (m.at 5)).2):=by kernel_rfl
theorem wqD_6 : gCut Tryz.prog (eE F) 248 wD (wSD 6 g m s c Y b) nK [0,nA,nD,nG,nH,nI,nJ] [0,5,8,19,20,21,22] = some (.exit 4,wS18 g m s c Y b):=by kernel_rfl
theorem wq24 : gRun Tryz.prog (eE F) 248 w24 (wS18 g m s c Y b) [0,nA,nD,nI,nJ,nK] [0,5,8,21,22,24] = some (.normal,wS24 g c (R6.of Y) (F.rt b (s,6,())).1 (F.rt b (s,6,())).2):=by kernel_rfl
theorem wq25 : gRun Tryz.prog (eE F) 248 w25 (wS24 g c y l b) [0,nA,nD,nI,nJ,nK] [0,5,8,21,22,24,25] = some (.normal,wS25 g c y l 0 b):=by kernel_rfl
theorem wq26 : gRun Tryz.prog (eE F) 248 w26 (wS25 g c y l chi b) [0,nA,nD,nI,nJ,nK] [0,5,8,21,22,24,25,123,124] = some (.normal,wSE 0 g c y l (F.so b (l,y,6,())).1 chi (F.so b (l,y,6,())).2):=by kernel_rfl
theorem wqE_0 : gCut Tryz.prog (eE F) 248 wE (wSE 0 g c y l u chi b) nL [0,nA,nD,nI,nJ,nK] [0,5,8,21,22,24,25,123,124] = some (.normal,wSE 1 g c y l u (meE F chi (y.at 0) (u.at 0) b).1 (meE F chi (y.at 0) (u.at 0) b).2):=by kernel_rfl
theorem wqE_1 : gCut Tryz.prog (eE F) 248 wE (wSE 1 g c y l u chi b) nL [0,nA,nD,nI,nJ,nK] [0,5,8,21,22,24,25,123,124] = some (.normal,wSE 2 g c y l u (meE F chi (y.at 1) (u.at 1) b).1 (meE F chi (y.at 1) (u.at 1) b).2):=by kernel_rfl
theorem wqE_2 : gCut Tryz.prog (eE F) 248 wE (wSE 2 g c y l u chi b) nL [0,nA,nD,nI,nJ,nK] [0,5,8,21,22,24,25,123,124] = some (.normal,wSE 3 g c y l u (meE F chi (y.at 2) (u.at 2) b).1 (meE F chi (y.at 2) (u.at 2) b).2):=by kernel_rfl
theorem wqE_3 : gCut Tryz.prog (eE F) 248 wE (wSE 3 g c y l u chi b) nL [0,nA,nD,nI,nJ,nK] [0,5,8,21,22,24,25,123,124] = some (.normal,wSE 4 g c y l u (meE F chi (y.at 3) (u.at 3) b).1 (meE F chi (y.at 3) (u.at 3) b).2):=by kernel_rfl
theorem wqE_4 : gCut Tryz.prog (eE F) 248 wE (wSE 4 g c y l u chi b) nL [0,nA,nD,nI,nJ,nK] [0,5,8,21,22,24,25,123,124] = some (.normal,wSE 5 g c y l u (meE F chi (y.at 4) (u.at 4) b).1 (meE F chi (y.at 4) (u.at 4) b).2):=by kernel_rfl
theorem wqE_5 : gCut Tryz.prog (eE F) 248 wE (wSE 5 g c y l u chi b) nL [0,nA,nD,nI,nJ,nK] [0,5,8,21,22,24,25,123,124] = some (.normal,wSE 6 g c y l u (meE F chi (y.at 5) (u.at 5) b).1 (meE F chi (y.at 5) (u.at 5) b).2):=by kernel_rfl
theorem wqE_6 : gCut Tryz.prog (eE F) 248 wE (wSE 6 g c y l u chi b) nL [0,nA,nD,nI,nJ,nK] [0,5,8,21,22,24,25] = some (.exit 6,wS25 g c y l chi b):=by kernel_rfl
theorem wq31t : gRun Tryz.prog (eE F) 248 w31 (wS25 g c y l chi true) [0,nD] [0,8,9,10] = some (.ret,wR Gs.zero 0 false true):=by kernel_rfl
theorem wq31f : gRun Tryz.prog (eE F) 248 w31 (wS25 g c y l chi false) [0,nA,nD,nI,nJ,nK] [0,5,8,21,22,24,25] = some (.normal,{ wS25 g c y l chi false with lo:=nL }):=by kernel_rfl
theorem wq33 : gRun Tryz.prog (eE F) 248 w33 (wS25 g c y l chi b) [0,nA,nD,nI,nJ,nK] [0,5,8,9,10,21,22,24,25] = bif decide (chi > 32985348833280) then some (.ret,gSt 248 [(0,.ptr 0 0),(8,.ptr nD 0),(9,.val (.int .i64 chi)),(10,.val (.bool false)),(5,.ptr nA 0),(21,.ptr nI 0),(22,.ptr nJ 0),(24,.ptr nK 0),(25,.val (.int .i64 chi))] [(0,.row 57 [.val (.bool b)]),(nA,.row 42 g.av),(nD,.row 42 g.av),(nI,.row 40 c.av),(nJ,.row 38 y.av),(nK,.row 40 l.av)] nL) else some (.normal,gSt 248 [(0,.ptr 0 0),(8,.ptr nD 0),(9,.any),(10,.any),(5,.ptr nA 0),(21,.ptr nI 0),(22,.ptr nJ 0),(24,.ptr nK 0),(25,.val (.int .i64 chi))] [(0,.row 57 [.val (.bool b)]),(nA,.row 42 g.av),(nD,.row 42 Gs.zero.av),(nI,.row 40 c.av),(nJ,.row 38 y.av),(nK,.row 40 l.av)] nL):=by kernel_rfl
theorem wRes : resA Tryz.prog (wR g chi ok b) Tryz.f21.results.toList = some [.val (Cod.enc g),.val (.int .i64 chi),.val (.bool ok)]:=by kernel_rfl
theorem wRes2 : resA Tryz.prog (wR2 g chi ok b) Tryz.f21.results.toList = some [.val (Cod.enc g),.val (.int .i64 chi),.val (.bool ok)]:=by kernel_rfl
theorem ok_wSA : okClean nE (wSA i g sky body b) = true:=by kernel_rfl
theorem lo_wSA : (wSA i g sky body b).lo = nE:=rfl
theorem ok_wS0 : okClean nE (wS0 g sky body b) = true:=by kernel_rfl
theorem ok_wSB : okClean nG (wSB i g sky body x Z b) = true:=by kernel_rfl
theorem lo_wSB : (wSB i g sky body x Z b).lo = nG:=rfl
theorem ok_wS7 : okClean nG (wS7 g sky body x Z b) = true:=by kernel_rfl
theorem ok_wSD : okClean nK (wSD i g m s c Y b) = true:=by kernel_rfl
theorem lo_wSD : (wSD i g m s c Y b).lo = nK:=rfl
theorem ok_wS18 : okClean nK (wS18 g m s c Y b) = true:=by kernel_rfl
theorem ok_wSE : okClean nL (wSE i g c y l u chi b) = true:=by kernel_rfl
theorem lo_wSE : (wSE i g c y l u chi b).lo = nL:=rfl
theorem ok_wS25 : okClean nL (wS25 g c y l chi b) = true:=by kernel_rfl
theorem ok_wSF : okClean nO (wSF i g c y l chi k T p b) = true:=by kernel_rfl
theorem lo_wSF : (wSF i g c y l chi k T p b).lo = nO:=rfl
theorem ok_wS35 : okClean nO (wS35 g c y l chi k T p b) = true:=by kernel_rfl
theorem ok_wSG : okClean nO (wSG i g c y l chi k T p b) = true:=by kernel_rfl
theorem lo_wSG : (wSG i g c y l chi k T p b).lo = nO:=rfl
theorem ok_wSJ : okClean nO (wSJ i j g c y l chi k T p b) = true:=by kernel_rfl
theorem lo_wSJ : (wSJ i j g c y l chi k T p b).lo = nO:=rfl
theorem ok_wSH : okClean nO (wSH i g c y l chi k T p b) = true:=by kernel_rfl
theorem lo_wSH : (wSH i g c y l chi k T p b).lo = nO:=rfl
end
end Go.Ab
namespace Go.Ab
open Go Go.Proofs
section
variable (F : GOps) (b : Bool) (g g' : Gs) (sky body : P2) (x z : X13) (Z : Mx) (m y u : R6) (s c l : M6) (Y : Nat→Int) (chi : Int) (k T p : Mx) (ok : Bool) (i j : Int)
theorem wq35 : gRun Tryz.prog (eE F) 248 w35 (wS25 g c y l chi b) [0,nA,nD,nI,nJ,nK,nL,nM,nN] [0,5,8,21,22,24,25,28,29,30] = some (.normal,wS35 g c y l chi mx0 mx0 mx0 b):=by kernel_rfl
theorem wq36 : gRun Tryz.prog (eE F) 248 w36 (wS35 g c y l chi k T p b) [0,nA,nD,nI,nJ,nK,nL,nM,nN] [0,5,8,21,22,24,25,28,29,30,151] = some (.normal,wSF 0 g c y l chi k T p b):=by kernel_rfl
theorem wqF_0 : gCut Tryz.prog (eE F) 248 wF (wSF 0 g c y l chi k T p b) nO [0,nA,nD,nI,nJ,nK,nL,nM,nN] [0,5,8,21,22,24,25,28,29,30,151] = some (.normal,wSF 1 g c y l chi (setX k 0 (F.so b (l,c.row 0,6,())).1) T p (F.so b (l,c.row 0,6,())).2):=by kernel_rfl
theorem wqF_1 : gCut Tryz.prog (eE F) 248 wF (wSF 1 g c y l chi k T p b) nO [0,nA,nD,nI,nJ,nK,nL,nM,nN] [0,5,8,21,22,24,25,28,29,30,151] = some (.normal,wSF 2 g c y l chi (setX k 1 (F.so b (l,c.row 1,6,())).1) T p (F.so b (l,c.row 1,6,())).2):=by kernel_rfl
theorem wqF_2 : gCut Tryz.prog (eE F) 248 wF (wSF 2 g c y l chi k T p b) nO [0,nA,nD,nI,nJ,nK,nL,nM,nN] [0,5,8,21,22,24,25,28,29,30,151] = some (.normal,wSF 3 g c y l chi (setX k 2 (F.so b (l,c.row 2,6,())).1) T p (F.so b (l,c.row 2,6,())).2):=by kernel_rfl
theorem wqF_3 : gCut Tryz.prog (eE F) 248 wF (wSF 3 g c y l chi k T p b) nO [0,nA,nD,nI,nJ,nK,nL,nM,nN] [0,5,8,21,22,24,25,28,29,30,151] = some (.normal,wSF 4 g c y l chi (setX k 3 (F.so b (l,c.row 3,6,())).1) T p (F.so b (l,c.row 3,6,())).2):=by kernel_rfl
theorem wqF_4 : gCut Tryz.prog (eE F) 248 wF (wSF 4 g c y l chi k T p b) nO [0,nA,nD,nI,nJ,nK,nL,nM,nN] [0,5,8,21,22,24,25,28,29,30,151] = some (.normal,wSF 5 g c y l chi (setX k 4 (F.so b (l,c.row 4,6,())).1) T p (F.so b (l,c.row 4,6,())).2):=by kernel_rfl
theorem wqF_5 : gCut Tryz.prog (eE F) 248 wF (wSF 5 g c y l chi k T p b) nO [0,nA,nD,nI,nJ,nK,nL,nM,nN] [0,5,8,21,22,24,25,28,29,30,151] = some (.normal,wSF 6 g c y l chi (setX k 5 (F.so b (l,c.row 5,6,())).1) T p (F.so b (l,c.row 5,6,())).2):=by kernel_rfl
theorem wqF_6 : gCut Tryz.prog (eE F) 248 wF (wSF 6 g c y l chi k T p b) nO [0,nA,nD,nI,nJ,nK,nL,nM,nN] [0,5,8,21,22,24,25,28,29,30] = some (.exit 8,wS35 g c y l chi k T p b):=by kernel_rfl
theorem wq41 : gRun Tryz.prog (eE F) 248 w41 (wS35 g c y l chi k T p b) [0,nA,nD,nI,nJ,nK,nL,nM,nN] [0,5,8,21,22,24,25,28,29,30,163] = some (.normal,wSG 0 g c y l chi k T p b):=by kernel_rfl
theorem wqGa_0 : gRun Tryz.prog (eE F) 248 wGa (wSG 0 g c y l chi k T p b) [0,nA,nD,nI,nJ,nK,nL,nM,nN] [0,5,8,21,22,24,25,28,29,30,163,164] = some (.normal,wSg 0 g c y l chi k T p b):=by kernel_rfl
theorem wqGb_0 : gRun Tryz.prog (eE F) 248 wGb (wSg 0 g c y l chi k T p b) [0,nA,nD,nI,nJ,nK,nL,nM,nN] [0,5,8,21,22,24,25,28,29,30,163] = some (.normal,wSG 0 g c y l chi k T p b):=by kernel_rfl
theorem wqGc_0 : gRun Tryz.prog (eE F) 248 w43 (wSG 0 g c y l chi k T p b) [0,nA,nD,nI,nJ,nK,nL,nM,nN] [0,5,8,21,22,24,25,28,29,30,32,163] = some (.normal,wSx 0 g c y l chi k T p b):=by kernel_rfl
theorem wqGd_0 : gRun Tryz.prog (eE F) 248 w44 (wSx 0 g c y l chi k T p b) [0,nA,nD,nI,nJ,nK,nL,nM,nN] [0,5,8,21,22,24,25,28,29,30,32,163,166] = some (.normal,wSJ 0 0 g c y l chi k T p b):=by kernel_rfl
theorem wqGe_0 : gRun Tryz.prog (eE F) 248 w55 (wSG 0 g c y l chi k T p b) [0,nA,nD,nI,nJ,nK,nL,nM,nN] [0,5,8,21,22,24,25,28,29,30,163] = some (.normal,wSG 1 g c y l chi k T p b):=by kernel_rfl
theorem wqGa_1 : gRun Tryz.prog (eE F) 248 wGa (wSG 1 g c y l chi k T p b) [0,nA,nD,nI,nJ,nK,nL,nM,nN] [0,5,8,21,22,24,25,28,29,30,163,164] = some (.normal,wSg 1 g c y l chi k T p b):=by kernel_rfl
theorem wqGb_1 : gRun Tryz.prog (eE F) 248 wGb (wSg 1 g c y l chi k T p b) [0,nA,nD,nI,nJ,nK,nL,nM,nN] [0,5,8,21,22,24,25,28,29,30,163] = some (.normal,wSG 1 g c y l chi k T p b):=by kernel_rfl
theorem wqGc_1 : gRun Tryz.prog (eE F) 248 w43 (wSG 1 g c y l chi k T p b) [0,nA,nD,nI,nJ,nK,nL,nM,nN] [0,5,8,21,22,24,25,28,29,30,32,163] = some (.normal,wSx 1 g c y l chi k T p b):=by kernel_rfl
theorem wqGd_1 : gRun Tryz.prog (eE F) 248 w44 (wSx 1 g c y l chi k T p b) [0,nA,nD,nI,nJ,nK,nL,nM,nN] [0,5,8,21,22,24,25,28,29,30,32,163,166] = some (.normal,wSJ 1 0 g c y l chi k T p b):=by kernel_rfl
theorem wqGe_1 : gRun Tryz.prog (eE F) 248 w55 (wSG 1 g c y l chi k T p b) [0,nA,nD,nI,nJ,nK,nL,nM,nN] [0,5,8,21,22,24,25,28,29,30,163] = some (.normal,wSG 2 g c y l chi k T p b):=by kernel_rfl
theorem wqGa_2 : gRun Tryz.prog (eE F) 248 wGa (wSG 2 g c y l chi k T p b) [0,nA,nD,nI,nJ,nK,nL,nM,nN] [0,5,8,21,22,24,25,28,29,30,163,164] = some (.normal,wSg 2 g c y l chi k T p b):=by kernel_rfl
theorem wqGb_2 : gRun Tryz.prog (eE F) 248 wGb (wSg 2 g c y l chi k T p b) [0,nA,nD,nI,nJ,nK,nL,nM,nN] [0,5,8,21,22,24,25,28,29,30,163] = some (.normal,wSG 2 g c y l chi k T p b):=by kernel_rfl
theorem wqGc_2 : gRun Tryz.prog (eE F) 248 w43 (wSG 2 g c y l chi k T p b) [0,nA,nD,nI,nJ,nK,nL,nM,nN] [0,5,8,21,22,24,25,28,29,30,32,163] = some (.normal,wSx 2 g c y l chi k T p b):=by kernel_rfl
theorem wqGd_2 : gRun Tryz.prog (eE F) 248 w44 (wSx 2 g c y l chi k T p b) [0,nA,nD,nI,nJ,nK,nL,nM,nN] [0,5,8,21,22,24,25,28,29,30,32,163,166] = some (.normal,wSJ 2 0 g c y l chi k T p b):=by kernel_rfl
theorem wqGe_2 : gRun Tryz.prog (eE F) 248 w55 (wSG 2 g c y l chi k T p b) [0,nA,nD,nI,nJ,nK,nL,nM,nN] [0,5,8,21,22,24,25,28,29,30,163] = some (.normal,wSG 3 g c y l chi k T p b):=by kernel_rfl
theorem wqGa_3 : gRun Tryz.prog (eE F) 248 wGa (wSG 3 g c y l chi k T p b) [0,nA,nD,nI,nJ,nK,nL,nM,nN] [0,5,8,21,22,24,25,28,29,30,163,164] = some (.normal,wSg 3 g c y l chi k T p b):=by kernel_rfl
theorem wqGb_3 : gRun Tryz.prog (eE F) 248 wGb (wSg 3 g c y l chi k T p b) [0,nA,nD,nI,nJ,nK,nL,nM,nN] [0,5,8,21,22,24,25,28,29,30,163] = some (.normal,wSG 3 g c y l chi k T p b):=by kernel_rfl
theorem wqGc_3 : gRun Tryz.prog (eE F) 248 w43 (wSG 3 g c y l chi k T p b) [0,nA,nD,nI,nJ,nK,nL,nM,nN] [0,5,8,21,22,24,25,28,29,30,32,163] = some (.normal,wSx 3 g c y l chi k T p b):=by kernel_rfl
theorem wqGd_3 : gRun Tryz.prog (eE F) 248 w44 (wSx 3 g c y l chi k T p b) [0,nA,nD,nI,nJ,nK,nL,nM,nN] [0,5,8,21,22,24,25,28,29,30,32,163,166] = some (.normal,wSJ 3 0 g c y l chi k T p b):=by kernel_rfl
theorem wqGe_3 : gRun Tryz.prog (eE F) 248 w55 (wSG 3 g c y l chi k T p b) [0,nA,nD,nI,nJ,nK,nL,nM,nN] [0,5,8,21,22,24,25,28,29,30,163] = some (.normal,wSG 4 g c y l chi k T p b):=by kernel_rfl
theorem wqGa_4 : gRun Tryz.prog (eE F) 248 wGa (wSG 4 g c y l chi k T p b) [0,nA,nD,nI,nJ,nK,nL,nM,nN] [0,5,8,21,22,24,25,28,29,30,163,164] = some (.normal,wSg 4 g c y l chi k T p b):=by kernel_rfl
theorem wqGb_4 : gRun Tryz.prog (eE F) 248 wGb (wSg 4 g c y l chi k T p b) [0,nA,nD,nI,nJ,nK,nL,nM,nN] [0,5,8,21,22,24,25,28,29,30,163] = some (.normal,wSG 4 g c y l chi k T p b):=by kernel_rfl
theorem wqGc_4 : gRun Tryz.prog (eE F) 248 w43 (wSG 4 g c y l chi k T p b) [0,nA,nD,nI,nJ,nK,nL,nM,nN] [0,5,8,21,22,24,25,28,29,30,32,163] = some (.normal,wSx 4 g c y l chi k T p b):=by kernel_rfl
theorem wqGd_4 : gRun Tryz.prog (eE F) 248 w44 (wSx 4 g c y l chi k T p b) [0,nA,nD,nI,nJ,nK,nL,nM,nN] [0,5,8,21,22,24,25,28,29,30,32,163,166] = some (.normal,wSJ 4 0 g c y l chi k T p b):=by kernel_rfl
theorem wqGe_4 : gRun Tryz.prog (eE F) 248 w55 (wSG 4 g c y l chi k T p b) [0,nA,nD,nI,nJ,nK,nL,nM,nN] [0,5,8,21,22,24,25,28,29,30,163] = some (.normal,wSG 5 g c y l chi k T p b):=by kernel_rfl
theorem wqGa_5 : gRun Tryz.prog (eE F) 248 wGa (wSG 5 g c y l chi k T p b) [0,nA,nD,nI,nJ,nK,nL,nM,nN] [0,5,8,21,22,24,25,28,29,30,163,164] = some (.normal,wSg 5 g c y l chi k T p b):=by kernel_rfl
theorem wqGb_5 : gRun Tryz.prog (eE F) 248 wGb (wSg 5 g c y l chi k T p b) [0,nA,nD,nI,nJ,nK,nL,nM,nN] [0,5,8,21,22,24,25,28,29,30,163] = some (.normal,wSG 5 g c y l chi k T p b):=by kernel_rfl
theorem wqGc_5 : gRun Tryz.prog (eE F) 248 w43 (wSG 5 g c y l chi k T p b) [0,nA,nD,nI,nJ,nK,nL,nM,nN] [0,5,8,21,22,24,25,28,29,30,32,163] = some (.normal,wSx 5 g c y l chi k T p b):=by kernel_rfl
theorem wqGd_5 : gRun Tryz.prog (eE F) 248 w44 (wSx 5 g c y l chi k T p b) [0,nA,nD,nI,nJ,nK,nL,nM,nN] [0,5,8,21,22,24,25,28,29,30,32,163,166] = some (.normal,wSJ 5 0 g c y l chi k T p b):=by kernel_rfl
theorem wqGe_5 : gRun Tryz.prog (eE F) 248 w55 (wSG 5 g c y l chi k T p b) [0,nA,nD,nI,nJ,nK,nL,nM,nN] [0,5,8,21,22,24,25,28,29,30,163] = some (.normal,wSG 6 g c y l chi k T p b):=by kernel_rfl
theorem wqG_6 : gCut Tryz.prog (eE F) 248 wG (wSG 6 g c y l chi k T p b) nO [0,nA,nD,nI,nJ,nK,nL,nM,nN] [0,5,8,21,22,24,25,28,29,30] = some (.exit 10,wS35 g c y l chi k T p b):=by kernel_rfl
theorem wq56 : gRun Tryz.prog (eE F) 248 w56 (wS35 g c y l chi k T p b) [0,nA,nD,nI,nJ,nK,nL,nM,nN] [0,5,8,21,22,24,25,28,29,30,203] = some (.normal,wSH 0 g c y l chi k T p b):=by kernel_rfl
theorem wqH_0 : gCut Tryz.prog (eE F) 248 wH (wSH 0 g c y l chi k T p b) nO [0,nA,nD,nI,nJ,nK,nL,nM,nN] [0,5,8,21,22,24,25,28,29,30,203] = some (.normal,wSH 1 g c y l chi k T (meH F.o T 0 0 6 (p,b)).1 (meH F.o T 0 0 6 (p,b)).2):=by kernel_rfl
theorem wqH_1 : gCut Tryz.prog (eE F) 248 wH (wSH 1 g c y l chi k T p b) nO [0,nA,nD,nI,nJ,nK,nL,nM,nN] [0,5,8,21,22,24,25,28,29,30,203] = some (.normal,wSH 2 g c y l chi k T (meH F.o T 1 0 6 (p,b)).1 (meH F.o T 1 0 6 (p,b)).2):=by kernel_rfl
theorem wqH_2 : gCut Tryz.prog (eE F) 248 wH (wSH 2 g c y l chi k T p b) nO [0,nA,nD,nI,nJ,nK,nL,nM,nN] [0,5,8,21,22,24,25,28,29,30,203] = some (.normal,wSH 3 g c y l chi k T (meH F.o T 2 0 6 (p,b)).1 (meH F.o T 2 0 6 (p,b)).2):=by kernel_rfl
theorem wqH_3 : gCut Tryz.prog (eE F) 248 wH (wSH 3 g c y l chi k T p b) nO [0,nA,nD,nI,nJ,nK,nL,nM,nN] [0,5,8,21,22,24,25,28,29,30,203] = some (.normal,wSH 4 g c y l chi k T (meH F.o T 3 0 6 (p,b)).1 (meH F.o T 3 0 6 (p,b)).2):=by kernel_rfl
theorem wqH_4 : gCut Tryz.prog (eE F) 248 wH (wSH 4 g c y l chi k T p b) nO [0,nA,nD,nI,nJ,nK,nL,nM,nN] [0,5,8,21,22,24,25,28,29,30,203] = some (.normal,wSH 5 g c y l chi k T (meH F.o T 4 0 6 (p,b)).1 (meH F.o T 4 0 6 (p,b)).2):=by kernel_rfl
theorem wqH_5 : gCut Tryz.prog (eE F) 248 wH (wSH 5 g c y l chi k T p b) nO [0,nA,nD,nI,nJ,nK,nL,nM,nN] [0,5,8,21,22,24,25,28,29,30,203] = some (.normal,wSH 6 g c y l chi k T (meH F.o T 5 0 6 (p,b)).1 (meH F.o T 5 0 6 (p,b)).2):=by kernel_rfl
theorem wqH_6 : gCut Tryz.prog (eE F) 248 wH (wSH 6 g c y l chi k T p b) nO [0,nA,nD,nI,nJ,nK,nL,nM,nN] [0,5,8,21,22,24,25,28,29,30] = some (.exit 16,wS35 g c y l chi k T p b):=by kernel_rfl
theorem wq65 : gRun Tryz.prog (eE F) 248 w65 (wS35 g c y l chi k T p b) [0,nD,nO] [0,8,25,38,39] = some (.normal,wS65 chi (meZ F g y k p b).1.b (meZ F g y k p b).1.a (meZ F g y k p b).2):=by kernel_rfl
theorem wq66 : gRun Tryz.prog (eE F) 248 w66 (wS65 chi ok g b) [0,nD,nO] [0,8,25,38,39] = bif !ok then some (.normal,wS65 0 ok g b) else some (.normal,{ wS65 chi ok g b with lo:=nP }):=by kernel_rfl
theorem wq68 : gRun Tryz.prog (eE F) 248 w68 (wS65 chi ok g b) [0,nD] [0,8,9,10] = some (.ret,wR2 g chi ok b):=by kernel_rfl
end
end Go.Ab
namespace Go.Ab
open Go Go.Proofs
section
variable (F : GOps) (b : Bool) (g g' : Gs) (sky body : P2) (x z : X13) (Z : Mx) (m y u : R6) (s c l : M6) (Y : Nat→Int) (chi : Int) (k T p : Mx) (ok : Bool) (i j : Int)
theorem wqJ_0_0 : gCut Tryz.prog (eE F) 248 wGL (wSJ 0 0 g c y l chi k T p b) nO [0,nA,nD,nI,nJ,nK,nL,nM,nN] [0,5,8,21,22,24,25,28,29,30,32,163,166] = some (.normal,wSJ 0 1 g c y l chi k (setM T 0 0 (meT F g.p.at k c.at 0 0 b).1) p (meT F g.p.at k c.at 0 0 b).2):=by kernel_rfl
theorem wqJ_0_1 : gCut Tryz.prog (eE F) 248 wGL (wSJ 0 1 g c y l chi k T p b) nO [0,nA,nD,nI,nJ,nK,nL,nM,nN] [0,5,8,21,22,24,25,28,29,30,32,163,166] = some (.normal,wSJ 0 2 g c y l chi k (setM T 0 1 (meT F g.p.at k c.at 0 1 b).1) p (meT F g.p.at k c.at 0 1 b).2):=by kernel_rfl
theorem wqJ_0_2 : gCut Tryz.prog (eE F) 248 wGL (wSJ 0 2 g c y l chi k T p b) nO [0,nA,nD,nI,nJ,nK,nL,nM,nN] [0,5,8,21,22,24,25,28,29,30,32,163,166] = some (.normal,wSJ 0 3 g c y l chi k (setM T 0 2 (meT F g.p.at k c.at 0 2 b).1) p (meT F g.p.at k c.at 0 2 b).2):=by kernel_rfl
theorem wqJ_0_3 : gCut Tryz.prog (eE F) 248 wGL (wSJ 0 3 g c y l chi k T p b) nO [0,nA,nD,nI,nJ,nK,nL,nM,nN] [0,5,8,21,22,24,25,28,29,30,32,163,166] = some (.normal,wSJ 0 4 g c y l chi k (setM T 0 3 (meT F g.p.at k c.at 0 3 b).1) p (meT F g.p.at k c.at 0 3 b).2):=by kernel_rfl
theorem wqJ_0_4 : gCut Tryz.prog (eE F) 248 wGL (wSJ 0 4 g c y l chi k T p b) nO [0,nA,nD,nI,nJ,nK,nL,nM,nN] [0,5,8,21,22,24,25,28,29,30,32,163,166] = some (.normal,wSJ 0 5 g c y l chi k (setM T 0 4 (meT F g.p.at k c.at 0 4 b).1) p (meT F g.p.at k c.at 0 4 b).2):=by kernel_rfl
theorem wqJ_0_5 : gCut Tryz.prog (eE F) 248 wGL (wSJ 0 5 g c y l chi k T p b) nO [0,nA,nD,nI,nJ,nK,nL,nM,nN] [0,5,8,21,22,24,25,28,29,30,32,163,166] = some (.normal,wSJ 0 6 g c y l chi k (setM T 0 5 (meT F g.p.at k c.at 0 5 b).1) p (meT F g.p.at k c.at 0 5 b).2):=by kernel_rfl
theorem wqJ_0_6 : gCut Tryz.prog (eE F) 248 wGL (wSJ 0 6 g c y l chi k T p b) nO [0,nA,nD,nI,nJ,nK,nL,nM,nN] [0,5,8,21,22,24,25,28,29,30,163] = some (.exit 12,wSG 0 g c y l chi k T p b):=by kernel_rfl
theorem wqJ_1_0 : gCut Tryz.prog (eE F) 248 wGL (wSJ 1 0 g c y l chi k T p b) nO [0,nA,nD,nI,nJ,nK,nL,nM,nN] [0,5,8,21,22,24,25,28,29,30,32,163,166] = some (.normal,wSJ 1 1 g c y l chi k (setM T 1 0 (meT F g.p.at k c.at 1 0 b).1) p (meT F g.p.at k c.at 1 0 b).2):=by kernel_rfl
theorem wqJ_1_1 : gCut Tryz.prog (eE F) 248 wGL (wSJ 1 1 g c y l chi k T p b) nO [0,nA,nD,nI,nJ,nK,nL,nM,nN] [0,5,8,21,22,24,25,28,29,30,32,163,166] = some (.normal,wSJ 1 2 g c y l chi k (setM T 1 1 (meT F g.p.at k c.at 1 1 b).1) p (meT F g.p.at k c.at 1 1 b).2):=by kernel_rfl
theorem wqJ_1_2 : gCut Tryz.prog (eE F) 248 wGL (wSJ 1 2 g c y l chi k T p b) nO [0,nA,nD,nI,nJ,nK,nL,nM,nN] [0,5,8,21,22,24,25,28,29,30,32,163,166] = some (.normal,wSJ 1 3 g c y l chi k (setM T 1 2 (meT F g.p.at k c.at 1 2 b).1) p (meT F g.p.at k c.at 1 2 b).2):=by kernel_rfl
theorem wqJ_1_3 : gCut Tryz.prog (eE F) 248 wGL (wSJ 1 3 g c y l chi k T p b) nO [0,nA,nD,nI,nJ,nK,nL,nM,nN] [0,5,8,21,22,24,25,28,29,30,32,163,166] = some (.normal,wSJ 1 4 g c y l chi k (setM T 1 3 (meT F g.p.at k c.at 1 3 b).1) p (meT F g.p.at k c.at 1 3 b).2):=by kernel_rfl
theorem wqJ_1_4 : gCut Tryz.prog (eE F) 248 wGL (wSJ 1 4 g c y l chi k T p b) nO [0,nA,nD,nI,nJ,nK,nL,nM,nN] [0,5,8,21,22,24,25,28,29,30,32,163,166] = some (.normal,wSJ 1 5 g c y l chi k (setM T 1 4 (meT F g.p.at k c.at 1 4 b).1) p (meT F g.p.at k c.at 1 4 b).2):=by kernel_rfl
theorem wqJ_1_5 : gCut Tryz.prog (eE F) 248 wGL (wSJ 1 5 g c y l chi k T p b) nO [0,nA,nD,nI,nJ,nK,nL,nM,nN] [0,5,8,21,22,24,25,28,29,30,32,163,166] = some (.normal,wSJ 1 6 g c y l chi k (setM T 1 5 (meT F g.p.at k c.at 1 5 b).1) p (meT F g.p.at k c.at 1 5 b).2):=by kernel_rfl
theorem wqJ_1_6 : gCut Tryz.prog (eE F) 248 wGL (wSJ 1 6 g c y l chi k T p b) nO [0,nA,nD,nI,nJ,nK,nL,nM,nN] [0,5,8,21,22,24,25,28,29,30,163] = some (.exit 12,wSG 1 g c y l chi k T p b):=by kernel_rfl
theorem wqJ_2_0 : gCut Tryz.prog (eE F) 248 wGL (wSJ 2 0 g c y l chi k T p b) nO [0,nA,nD,nI,nJ,nK,nL,nM,nN] [0,5,8,21,22,24,25,28,29,30,32,163,166] = some (.normal,wSJ 2 1 g c y l chi k (setM T 2 0 (meT F g.p.at k c.at 2 0 b).1) p (meT F g.p.at k c.at 2 0 b).2):=by kernel_rfl
theorem wqJ_2_1 : gCut Tryz.prog (eE F) 248 wGL (wSJ 2 1 g c y l chi k T p b) nO [0,nA,nD,nI,nJ,nK,nL,nM,nN] [0,5,8,21,22,24,25,28,29,30,32,163,166] = some (.normal,wSJ 2 2 g c y l chi k (setM T 2 1 (meT F g.p.at k c.at 2 1 b).1) p (meT F g.p.at k c.at 2 1 b).2):=by kernel_rfl
theorem wqJ_2_2 : gCut Tryz.prog (eE F) 248 wGL (wSJ 2 2 g c y l chi k T p b) nO [0,nA,nD,nI,nJ,nK,nL,nM,nN] [0,5,8,21,22,24,25,28,29,30,32,163,166] = some (.normal,wSJ 2 3 g c y l chi k (setM T 2 2 (meT F g.p.at k c.at 2 2 b).1) p (meT F g.p.at k c.at 2 2 b).2):=by kernel_rfl
theorem wqJ_2_3 : gCut Tryz.prog (eE F) 248 wGL (wSJ 2 3 g c y l chi k T p b) nO [0,nA,nD,nI,nJ,nK,nL,nM,nN] [0,5,8,21,22,24,25,28,29,30,32,163,166] = some (.normal,wSJ 2 4 g c y l chi k (setM T 2 3 (meT F g.p.at k c.at 2 3 b).1) p (meT F g.p.at k c.at 2 3 b).2):=by kernel_rfl
theorem wqJ_2_4 : gCut Tryz.prog (eE F) 248 wGL (wSJ 2 4 g c y l chi k T p b) nO [0,nA,nD,nI,nJ,nK,nL,nM,nN] [0,5,8,21,22,24,25,28,29,30,32,163,166] = some (.normal,wSJ 2 5 g c y l chi k (setM T 2 4 (meT F g.p.at k c.at 2 4 b).1) p (meT F g.p.at k c.at 2 4 b).2):=by kernel_rfl
theorem wqJ_2_5 : gCut Tryz.prog (eE F) 248 wGL (wSJ 2 5 g c y l chi k T p b) nO [0,nA,nD,nI,nJ,nK,nL,nM,nN] [0,5,8,21,22,24,25,28,29,30,32,163,166] = some (.normal,wSJ 2 6 g c y l chi k (setM T 2 5 (meT F g.p.at k c.at 2 5 b).1) p (meT F g.p.at k c.at 2 5 b).2):=by kernel_rfl
theorem wqJ_2_6 : gCut Tryz.prog (eE F) 248 wGL (wSJ 2 6 g c y l chi k T p b) nO [0,nA,nD,nI,nJ,nK,nL,nM,nN] [0,5,8,21,22,24,25,28,29,30,163] = some (.exit 12,wSG 2 g c y l chi k T p b):=by kernel_rfl
end
end Go.Ab
namespace Go.Ab
open Go Go.Proofs
section
variable (F : GOps) (b : Bool) (g g' : Gs) (sky body : P2) (x z : X13) (Z : Mx) (m y u : R6) (s c l : M6) (Y : Nat→Int) (chi : Int) (k T p : Mx) (ok : Bool) (i j : Int)
theorem wqJ_3_0 : gCut Tryz.prog (eE F) 248 wGL (wSJ 3 0 g c y l chi k T p b) nO [0,nA,nD,nI,nJ,nK,nL,nM,nN] [0,5,8,21,22,24,25,28,29,30,32,163,166] = some (.normal,wSJ 3 1 g c y l chi k (setM T 3 0 (meT F g.p.at k c.at 3 0 b).1) p (meT F g.p.at k c.at 3 0 b).2):=by kernel_rfl
theorem wqJ_3_1 : gCut Tryz.prog (eE F) 248 wGL (wSJ 3 1 g c y l chi k T p b) nO [0,nA,nD,nI,nJ,nK,nL,nM,nN] [0,5,8,21,22,24,25,28,29,30,32,163,166] = some (.normal,wSJ 3 2 g c y l chi k (setM T 3 1 (meT F g.p.at k c.at 3 1 b).1) p (meT F g.p.at k c.at 3 1 b).2):=by kernel_rfl
theorem wqJ_3_2 : gCut Tryz.prog (eE F) 248 wGL (wSJ 3 2 g c y l chi k T p b) nO [0,nA,nD,nI,nJ,nK,nL,nM,nN] [0,5,8,21,22,24,25,28,29,30,32,163,166] = some (.normal,wSJ 3 3 g c y l chi k (setM T 3 2 (meT F g.p.at k c.at 3 2 b).1) p (meT F g.p.at k c.at 3 2 b).2):=by kernel_rfl
theorem wqJ_3_3 : gCut Tryz.prog (eE F) 248 wGL (wSJ 3 3 g c y l chi k T p b) nO [0,nA,nD,nI,nJ,nK,nL,nM,nN] [0,5,8,21,22,24,25,28,29,30,32,163,166] = some (.normal,wSJ 3 4 g c y l chi k (setM T 3 3 (meT F g.p.at k c.at 3 3 b).1) p (meT F g.p.at k c.at 3 3 b).2):=by kernel_rfl
theorem wqJ_3_4 : gCut Tryz.prog (eE F) 248 wGL (wSJ 3 4 g c y l chi k T p b) nO [0,nA,nD,nI,nJ,nK,nL,nM,nN] [0,5,8,21,22,24,25,28,29,30,32,163,166] = some (.normal,wSJ 3 5 g c y l chi k (setM T 3 4 (meT F g.p.at k c.at 3 4 b).1) p (meT F g.p.at k c.at 3 4 b).2):=by kernel_rfl
theorem wqJ_3_5 : gCut Tryz.prog (eE F) 248 wGL (wSJ 3 5 g c y l chi k T p b) nO [0,nA,nD,nI,nJ,nK,nL,nM,nN] [0,5,8,21,22,24,25,28,29,30,32,163,166] = some (.normal,wSJ 3 6 g c y l chi k (setM T 3 5 (meT F g.p.at k c.at 3 5 b).1) p (meT F g.p.at k c.at 3 5 b).2):=by kernel_rfl
theorem wqJ_3_6 : gCut Tryz.prog (eE F) 248 wGL (wSJ 3 6 g c y l chi k T p b) nO [0,nA,nD,nI,nJ,nK,nL,nM,nN] [0,5,8,21,22,24,25,28,29,30,163] = some (.exit 12,wSG 3 g c y l chi k T p b):=by kernel_rfl
theorem wqJ_4_0 : gCut Tryz.prog (eE F) 248 wGL (wSJ 4 0 g c y l chi k T p b) nO [0,nA,nD,nI,nJ,nK,nL,nM,nN] [0,5,8,21,22,24,25,28,29,30,32,163,166] = some (.normal,wSJ 4 1 g c y l chi k (setM T 4 0 (meT F g.p.at k c.at 4 0 b).1) p (meT F g.p.at k c.at 4 0 b).2):=by kernel_rfl
theorem wqJ_4_1 : gCut Tryz.prog (eE F) 248 wGL (wSJ 4 1 g c y l chi k T p b) nO [0,nA,nD,nI,nJ,nK,nL,nM,nN] [0,5,8,21,22,24,25,28,29,30,32,163,166] = some (.normal,wSJ 4 2 g c y l chi k (setM T 4 1 (meT F g.p.at k c.at 4 1 b).1) p (meT F g.p.at k c.at 4 1 b).2):=by kernel_rfl
theorem wqJ_4_2 : gCut Tryz.prog (eE F) 248 wGL (wSJ 4 2 g c y l chi k T p b) nO [0,nA,nD,nI,nJ,nK,nL,nM,nN] [0,5,8,21,22,24,25,28,29,30,32,163,166] = some (.normal,wSJ 4 3 g c y l chi k (setM T 4 2 (meT F g.p.at k c.at 4 2 b).1) p (meT F g.p.at k c.at 4 2 b).2):=by kernel_rfl
theorem wqJ_4_3 : gCut Tryz.prog (eE F) 248 wGL (wSJ 4 3 g c y l chi k T p b) nO [0,nA,nD,nI,nJ,nK,nL,nM,nN] [0,5,8,21,22,24,25,28,29,30,32,163,166] = some (.normal,wSJ 4 4 g c y l chi k (setM T 4 3 (meT F g.p.at k c.at 4 3 b).1) p (meT F g.p.at k c.at 4 3 b).2):=by kernel_rfl
theorem wqJ_4_4 : gCut Tryz.prog (eE F) 248 wGL (wSJ 4 4 g c y l chi k T p b) nO [0,nA,nD,nI,nJ,nK,nL,nM,nN] [0,5,8,21,22,24,25,28,29,30,32,163,166] = some (.normal,wSJ 4 5 g c y l chi k (setM T 4 4 (meT F g.p.at k c.at 4 4 b).1) p (meT F g.p.at k c.at 4 4 b).2):=by kernel_rfl
theorem wqJ_4_5 : gCut Tryz.prog (eE F) 248 wGL (wSJ 4 5 g c y l chi k T p b) nO [0,nA,nD,nI,nJ,nK,nL,nM,nN] [0,5,8,21,22,24,25,28,29,30,32,163,166] = some (.normal,wSJ 4 6 g c y l chi k (setM T 4 5 (meT F g.p.at k c.at 4 5 b).1) p (meT F g.p.at k c.at 4 5 b).2):=by kernel_rfl
theorem wqJ_4_6 : gCut Tryz.prog (eE F) 248 wGL (wSJ 4 6 g c y l chi k T p b) nO [0,nA,nD,nI,nJ,nK,nL,nM,nN] [0,5,8,21,22,24,25,28,29,30,163] = some (.exit 12,wSG 4 g c y l chi k T p b):=by kernel_rfl
theorem wqJ_5_0 : gCut Tryz.prog (eE F) 248 wGL (wSJ 5 0 g c y l chi k T p b) nO [0,nA,nD,nI,nJ,nK,nL,nM,nN] [0,5,8,21,22,24,25,28,29,30,32,163,166] = some (.normal,wSJ 5 1 g c y l chi k (setM T 5 0 (meT F g.p.at k c.at 5 0 b).1) p (meT F g.p.at k c.at 5 0 b).2):=by kernel_rfl
theorem wqJ_5_1 : gCut Tryz.prog (eE F) 248 wGL (wSJ 5 1 g c y l chi k T p b) nO [0,nA,nD,nI,nJ,nK,nL,nM,nN] [0,5,8,21,22,24,25,28,29,30,32,163,166] = some (.normal,wSJ 5 2 g c y l chi k (setM T 5 1 (meT F g.p.at k c.at 5 1 b).1) p (meT F g.p.at k c.at 5 1 b).2):=by kernel_rfl
theorem wqJ_5_2 : gCut Tryz.prog (eE F) 248 wGL (wSJ 5 2 g c y l chi k T p b) nO [0,nA,nD,nI,nJ,nK,nL,nM,nN] [0,5,8,21,22,24,25,28,29,30,32,163,166] = some (.normal,wSJ 5 3 g c y l chi k (setM T 5 2 (meT F g.p.at k c.at 5 2 b).1) p (meT F g.p.at k c.at 5 2 b).2):=by kernel_rfl
theorem wqJ_5_3 : gCut Tryz.prog (eE F) 248 wGL (wSJ 5 3 g c y l chi k T p b) nO [0,nA,nD,nI,nJ,nK,nL,nM,nN] [0,5,8,21,22,24,25,28,29,30,32,163,166] = some (.normal,wSJ 5 4 g c y l chi k (setM T 5 3 (meT F g.p.at k c.at 5 3 b).1) p (meT F g.p.at k c.at 5 3 b).2):=by kernel_rfl
theorem wqJ_5_4 : gCut Tryz.prog (eE F) 248 wGL (wSJ 5 4 g c y l chi k T p b) nO [0,nA,nD,nI,nJ,nK,nL,nM,nN] [0,5,8,21,22,24,25,28,29,30,32,163,166] = some (.normal,wSJ 5 5 g c y l chi k (setM T 5 4 (meT F g.p.at k c.at 5 4 b).1) p (meT F g.p.at k c.at 5 4 b).2):=by kernel_rfl
theorem wqJ_5_5 : gCut Tryz.prog (eE F) 248 wGL (wSJ 5 5 g c y l chi k T p b) nO [0,nA,nD,nI,nJ,nK,nL,nM,nN] [0,5,8,21,22,24,25,28,29,30,32,163,166] = some (.normal,wSJ 5 6 g c y l chi k (setM T 5 5 (meT F g.p.at k c.at 5 5 b).1) p (meT F g.p.at k c.at 5 5 b).2):=by kernel_rfl
theorem wqJ_5_6 : gCut Tryz.prog (eE F) 248 wGL (wSJ 5 6 g c y l chi k T p b) nO [0,nA,nD,nI,nJ,nK,nL,nM,nN] [0,5,8,21,22,24,25,28,29,30,163] = some (.exit 12,wSG 5 g c y l chi k T p b):=by kernel_rfl
end
end Go.Ab
