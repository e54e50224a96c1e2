/- A part of the proofs: lemmas, no statement of their own; no condition. -/
import Derived.Test.YtoocjipllmkjcaaGreatGFkS
import Derived.ProofKit
/- The filter's Meet is the document's: the end. -/
namespace Go.Ab
open Go Go.Proofs
/-- The end of it: a guess, moved by a row. -/
def tm (g : Gs) (chi : Int) (by_ : R6) (w : M6 × Bool) : GCB × Bool :=
  let t := tuF w.2 ((halvesV by_).a, g.q, ())
  let u := qunit opsF t.2 (t.1, ())
  let c := vop fadd u.2 (g.bias, (halvesV by_).b, ())
  (⟨bif c.2 then Gs.zero else ⟨u.1, c.1, w.1⟩, bif c.2 then 0 else chi, bif c.2 then false else true⟩, c.2)
theorem tm_bad (g : Gs) (chi : Int) (by_ : R6) (p : M6) : tm g chi by_ (p, true) = (GCB.zero, true) := by
  unfold tm
  dsimp only
  rw [bad_tu, bad_un, bad_va]
  rfl
theorem st_tm (g : Gs) (chi : Int) (by_ : R6) (w : M6 × Bool) : ((⟨(stF w.2 (g.q, g.bias, by_, w.1, ())).1.a, bif (stF w.2 (g.q, g.bias, by_, w.1, ())).1.b then chi else 0, (stF w.2 (g.q, g.bias, by_, w.1, ())).1.b⟩ : GCB), (stF w.2 (g.q, g.bias, by_, w.1, ())).2) = tm g chi by_ w := by
  unfold stF settleO settle0 tm
  dsimp only
  generalize vop fadd (qunit opsF (tuF w.2 ((halvesV by_).a, g.q, ())).2 ((tuF w.2 ((halvesV by_).a, g.q, ())).1, ())).2 (g.bias, (halvesV by_).b, ()) = c
  obtain ⟨c, f⟩ := c
  cases f <;> rfl
theorem rmQ_is (F : ROps) (by_ : R6) (g : Gs) (b : Bool) : rmQ F by_ g b = F.un (F.mu (F.fr b ((halvesV by_).a, ())).2 ((F.fr b ((halvesV by_).a, ())).1, g.q, ())).2 ((F.mu (F.fr b ((halvesV by_).a, ())).2 ((F.fr b ((halvesV by_).a, ())).1, g.q, ())).1, ()) := rfl
theorem rmQ_tm (g : Gs) (chi : Int) (by_ : R6) (w : Mx × Bool) : ((⟨bif (vop fadd (rmQ RP by_ g w.2).2 (g.bias, (halvesV by_).b, ())).2 then Gs.zero else ⟨(rmQ RP by_ g w.2).1, (vop fadd (rmQ RP by_ g w.2).2 (g.bias, (halvesV by_).b, ())).1, M6.of w.1⟩, bif (vop fadd (rmQ RP by_ g w.2).2 (g.bias, (halvesV by_).b, ())).2 then 0 else chi, bif (vop fadd (rmQ RP by_ g w.2).2 (g.bias, (halvesV by_).b, ())).2 then false else true⟩ : GCB), (vop fadd (rmQ RP by_ g w.2).2 (g.bias, (halvesV by_).b, ())).2) = tm g chi by_ (asM w) := by
  unfold tm asM
  dsimp only
  rw [rmQ_is, RP_un, RP_fr, RP_mu, tuF_is]
theorem tm_flag (g : Gs) (chi : Int) (by_ : R6) (w : M6 × Bool) (h : w.2 = true) : tm g chi by_ w = (GCB.zero, true) := by
  obtain ⟨w, f⟩ := w
  have : f = true := h
  subst this
  exact tm_bad ..
theorem order_same (g : Gs) (chi : Int) (ap : Bool → R6 × Bool) (ch : Bool → Mx × Bool) (hap : (ap true).2 = true) (hch : (ch true).2 = true) (f : Bool) : tm g chi (ap (ch f).2).1 (M6.of (ch f).1, (ap (ch f).2).2) = tm g chi (ap f).1 (asM (ch (ap f).2)) := by
  cases f with
  | true =>
    rw [hap, hch]
    rw [tm_flag _ _ _ (asM (ch true)) hch, tm_flag _ _ _ _ hap]
  | false =>
    rcases hq : ap false with ⟨r, e⟩
    rcases hp : ch false with ⟨P, e2⟩
    dsimp only
    cases e2 with
    | true =>
      rw [tm_flag _ _ _ _ hap]
      cases e with
      | true => rw [tm_flag _ _ _ (asM (ch true)) hch]
      | false => rw [hp, tm_flag _ _ _ (asM (P, true)) rfl]
    | false =>
      rw [hq]
      cases e with
      | true => rw [tm_flag _ _ _ (asM (ch true)) hch, tm_flag _ _ _ _ rfl]
      | false => rw [hp]; rfl
def endP (F : GOps) (g : Gs) (y : R6) (chi : Int) (k : Mx) (p : Mx × Bool) : GCB × Bool :=
  (⟨(F.st (F.ap p.2 (M6.of k, y, 6, ())).2 (g.q, g.bias, (F.ap p.2 (M6.of k, y, 6, ())).1, M6.of p.1, ())).1.a, bif (F.st (F.ap p.2 (M6.of k, y, 6, ())).2 (g.q, g.bias, (F.ap p.2 (M6.of k, y, 6, ())).1, M6.of p.1, ())).1.b then chi else 0, (F.st (F.ap p.2 (M6.of k, y, 6, ())).2 (g.q, g.bias, (F.ap p.2 (M6.of k, y, 6, ())).1, M6.of p.1, ())).1.b⟩, (F.st (F.ap p.2 (M6.of k, y, 6, ())).2 (g.q, g.bias, (F.ap p.2 (M6.of k, y, 6, ())).1, M6.of p.1, ())).2)
def chP (F : GOps) (g : Gs) (k : Mx) (c : M6) (b : Bool) : Mx × Bool := iterF (meFH F (iterF (meFG F g.p.at k c.at) 0 6 (mx0, b)).1) 0 6 (mx0, (iterF (meFG F g.p.at k c.at) 0 6 (mx0, b)).2)
theorem meetEnd_is (F : GOps) (g : Gs) (c : M6) (y : R6) (l : M6) (chi : Int) : meetEnd F g c y l chi = endP F g y chi (iterF (meFF F l c) 0 6 (mx0, false)).1 (chP F g (iterF (meFF F l c) 0 6 (mx0, false)).1 c (iterF (meFF F l c) 0 6 (mx0, false)).2) := rfl
def chD (F : ROps) (g : Gs) (k Q : Mx) (b : Bool) : Mx × Bool := iterF (rwF36 F (iterF (rwF33 F g Q k) 0 6 (mx0, b)).1) 0 6 (mx0, (iterF (rwF33 F g Q k) 0 6 (mx0, b)).2)
def finD (F : ROps) (g : Gs) (chi : Int) (by_ : R6) (w : Mx × Bool) : GCB × Bool :=
  (⟨bif (F.va (rmQ F by_ g w.2).2 (g.bias, (halvesV by_).b, ())).2 then Gs.zero else ⟨(rmQ F by_ g w.2).1, (F.va (rmQ F by_ g w.2).2 (g.bias, (halvesV by_).b, ())).1, M6.of w.1⟩, bif (F.va (rmQ F by_ g w.2).2 (g.bias, (halvesV by_).b, ())).2 then 0 else chi, bif (F.va (rmQ F by_ g w.2).2 (g.bias, (halvesV by_).b, ())).2 then false else true⟩, (F.va (rmQ F by_ g w.2).2 (g.bias, (halvesV by_).b, ())).2)
theorem rmeetO_t_is (F : ROps) (g : Gs) (b : Bool) (Q : Mx) (Y : Nat → Int) (l : M6) (chi : Int) : rmeetO_t F g b Q Y l chi = finD F g chi (F.ap (iterF (rwF29 F Q l) 0 6 (mx0, b)).2 (M6.of (iterF (rwF29 F Q l) 0 6 (mx0, b)).1, R6.of Y, 6, ())).1
    (chD F g (iterF (rwF29 F Q l) 0 6 (mx0, b)).1 Q (F.ap (iterF (rwF29 F Q l) 0 6 (mx0, b)).2 (M6.of (iterF (rwF29 F Q l) 0 6 (mx0, b)).1, R6.of Y, 6, ())).2) := rfl
theorem GP_st : GP.st = stF := rfl
theorem GP_ap : GP.ap = matApply opsF := rfl
theorem RP_ap : RP.ap = matApply opsF := rfl
theorem finD_is (g : Gs) (chi : Int) (by_ : R6) (w : Mx × Bool) : finD RP g chi by_ w = tm g chi by_ (asM w) := by
  unfold finD
  rw [RP_va]
  exact rmQ_tm g chi by_ w
theorem endP_is (g : Gs) (y : R6) (chi : Int) (k : Mx) (p : Mx × Bool) : endP GP g y chi k p = tm g chi (matApply opsF p.2 (M6.of k, y, 6, ())).1 (M6.of p.1, (matApply opsF p.2 (M6.of k, y, 6, ())).2) := by
  unfold endP
  rw [GP_st, GP_ap]
  exact st_tm g chi (matApply opsF p.2 (M6.of k, y, 6, ())).1 (M6.of p.1, (matApply opsF p.2 (M6.of k, y, 6, ())).2)
theorem ch_same (g : Gs) (k Q : Mx) (b : Bool) : chP GP g k (M6.of Q) b = chD RP g k Q b := by
  unfold chP chD
  rw [rest_same, half_same]
end Go.Ab
/- The filter's Meet is the document's: all. -/
namespace Go.Ab
open Go Go.Proofs
theorem bad_ap : Bad (matApply opsF) := fun a => by
  show (byN R6.zero a.2.2.1 true _).2 = true
  unfold byN
  cases okN a.2.2.1 <;> rfl
theorem bad_rt : Bad (matRootN opsF) := fun a => by
  show (byN M6.zero a.2.1 true _).2 = true
  unfold byN
  cases okN a.2.1 <;> rfl
theorem bad_so : Bad (matSolve opsF) := fun a => by
  show (byN R6.zero a.2.2.1 true _).2 = true
  unfold byN
  cases okN a.2.2.1 <;> rfl
theorem rmS_bad (u v : Nat → Int) : ∀ (n a : Nat) (s : Int), (rmS opsF u v a n (s, true)).2 = true
  | 0, _, _ => rfl
  | n + 1, a, _ => rmS_bad u v n (a + 1) 0
theorem rmG_bad (P K Q : Mx) (i j : Nat) : (rmG opsF P K Q i j true).2 = true := by
  unfold rmG
  dsimp only
  rw [rmS_bad]
  rfl
theorem rwG33_2 (F : ROps) (g : Gs) (Q K : Mx) (k j : Nat) (z : Mx × Bool) : (rwG33 F g Q K k j z).2 = (rmG F.o g.p.at K Q k j z.2).2 := rfl
theorem rwG36_2 (F : ROps) (T : Mx) (k j : Nat) (z : Mx × Bool) : (rwG36 F T k j z).2 = (rmH F.o T k j z.2).2 := rfl
theorem rwF33_is (F : ROps) (g : Gs) (Q K : Mx) (k : Nat) (z : Mx × Bool) : rwF33 F g Q K k z = iterF (rwG33 F g Q K k) 0 6 z := rfl
theorem rwF36_is (F : ROps) (T : Mx) (k : Nat) (z : Mx × Bool) : rwF36 F T k z = iterF (rwG36 F T k) 0 6 z := rfl
theorem RP_o : RP.o = opsF := rfl
theorem chD_bad (g : Gs) (K Q : Mx) : (chD RP g K Q true).2 = true := by
  unfold chD
  have h1 := iter_bad (P := rwF33 RP g Q K) (fun i d => by
    rw [rwF33_is]
    exact iter_bad (P := rwG33 RP g Q K i) (fun j e => by rw [rwG33_2, RP_o]; exact rmG_bad ..) 6 0 d) 6 0 mx0
  rw [h1]
  exact iter_bad (P := rwF36 RP _) (fun i d => by
    rw [rwF36_is]
    exact iter_bad (P := rwG36 RP _ i) (fun j e => by rw [rwG36_2, RP_o]; rfl) 6 0 d) 6 0 mx0
theorem end_eq (g : Gs) (Q : Mx) (Y : Nat → Int) (l : M6) (chi : Int) : meetEnd GP g (M6.of Q) (R6.of Y) l chi = rmeetO_t RP g false Q Y l chi := by
  rw [meetEnd_is, rmeetO_t_is, gain_same, endP_is, finD_is, RP_ap, ch_same]
  generalize iterF (rwF29 RP Q l) 0 6 (mx0, false) = k
  exact order_same g chi (fun b => matApply opsF b (M6.of k.1, R6.of Y, 6, ())) (fun b => chD RP g k.1 Q b) (bad_ap _) (chD_bad g k.1 Q) k.2
end Go.Ab
/- The filter's Meet is the document's: from the diagonal on. -/
namespace Go.Ab
open Go Go.Proofs
def midP (F : GOps) (g : Gs) (m : R6) (body : P2) (c : M6) (n : M6 × Bool) : GCB × Bool :=
  let y := iterF (meFD F m) 0 6 ((joinV body.a body.b).at, n.2)
  let l := F.rt y.2 (n.1, 6, ())
  let u := F.so l.2 (l.1, R6.of y.1, 6, ())
  let e := iterF (meFE F (R6.of y.1) u.1) 0 6 (0, u.2)
  meetMid F g c (R6.of y.1) l.1 e
def outD (F : ROps) (g : Gs) (Q : Mx) (Y : Nat → Int) (l : M6) (e : Int × Bool) : GCB × Bool :=
  bif tst e.2 then (⟨Gs.zero, 0, false⟩, e.2) else
  bif tst (decide (e.1 > 32985348833280)) then (⟨g, e.1, false⟩, e.2) else
  rmeetO_t F g e.2 Q Y l e.1
def midD (F : ROps) (g : Gs) (m : Nat → Int) (body : P2) (Q : Mx) (n : M6 × Bool) : GCB × Bool :=
  let y := iterF (rwF19 F m) 0 6 ((joinV body.a body.b).at, n.2)
  let l := F.rt y.2 (n.1, 6, ())
  let u := F.so l.2 (l.1, R6.of y.1, 6, ())
  let e := iterF (rwF24 F y.1 u.1) 0 6 (0, u.2)
  outD F g Q y.1 l.1 e
theorem out_eq (g : Gs) (Q : Mx) (Y : Nat → Int) (l : M6) (e : Int × Bool) : meetMid GP g (M6.of Q) (R6.of Y) l e = outD RP g Q Y l e := by
  obtain ⟨chi, f⟩ := e
  unfold meetMid outD tst
  dsimp only
  cases f with
  | true => rfl
  | false =>
    rw [end_eq]
    rfl
theorem GP_rt : GP.rt = matRootN opsF := rfl
theorem GP_so : GP.so = matSolve opsF := rfl
theorem RP_rt : RP.rt = matRootN opsF := rfl
theorem RP_so : RP.so = matSolve opsF := rfl
theorem mid_eq (g : Gs) (m : Nat → Int) (body : P2) (Q : Mx) (n : M6 × Bool) : midP GP g (R6.of m) body (M6.of Q) n = midD RP g m body Q n := by
  unfold midP midD
  rw [GP_rt, GP_so, RP_rt, RP_so]
  dsimp only
  rw [lessY_fun m 6 (Nat.le_refl 6) 0 _ rfl]
  generalize iterF (rwF19 RP m) 0 6 ((joinV body.a body.b).at, n.2) = y
  generalize matRootN opsF y.2 (n.1, 6, ()) = l
  generalize matSolve opsF l.2 (l.1, R6.of y.1, 6, ()) = u
  rw [chi_same, out_eq]
end Go.Ab
/- The filter's Meet is the document's: bad flows. -/
namespace Go.Ab
open Go Go.Proofs
theorem rwF19_2 (F : ROps) (m : Nat → Int) (k : Nat) (z : (Nat → Int) × Bool) : (rwF19 F m k z).2 = (F.o.sub z.2 (z.1 k) (m k)).2 := rfl
theorem rwF24_2 (F : ROps) (Y : Nat → Int) (u : R6) (k : Nat) (z : Int × Bool) : (rwF24 F Y u k z).2 = (F.o.add (F.o.mul z.2 (Y k) (u.at k)).2 z.1 (F.o.mul z.2 (Y k) (u.at k)).1).2 := rfl
theorem outD_bad (g : Gs) (Q : Mx) (Y : Nat → Int) (l : M6) (e : Int × Bool) (h : e.2 = true) : outD RP g Q Y l e = (GCB.zero, true) := by
  obtain ⟨e, f⟩ := e
  have : f = true := h
  subst this
  rfl
theorem midD_bad (g : Gs) (m : Nat → Int) (body : P2) (Q : Mx) (n : M6 × Bool) (h : n.2 = true) : midD RP g m body Q n = (GCB.zero, true) := by
  unfold midD
  rw [RP_rt, RP_so, h]
  dsimp only
  refine outD_bad _ _ _ _ _ ?_
  have h1 := iter_bad (P := rwF19 RP m) (fun i d => by rw [rwF19_2, RP_o]; rfl) 6 0 (joinV body.a body.b).at
  rw [h1, bad_rt, bad_so]
  exact iter_bad (P := rwF24 RP _ _) (fun i d => by rw [rwF24_2, RP_o]; rfl) 6 0 0
theorem midD_same (g : Gs) (m : Nat → Int) (body : P2) (Q : Mx) {n n' : M6 × Bool} (h : Same n n') : midD RP g m body Q n = midD RP g m body Q n' := by
  obtain ⟨n, f⟩ := n
  obtain ⟨n', e⟩ := n'
  have h1 : f = e := h.1
  subst h1
  cases f with
  | true => rw [midD_bad _ _ _ _ _ rfl, midD_bad _ _ _ _ _ rfl]
  | false => rw [h.2 rfl]
end Go.Ab
/- The filter's Meet is the document's: from the products on. -/
namespace Go.Ab
open Go Go.Proofs
theorem diag_meet (g : Gs) (m : Nat → Int) (body : P2) (P Q : Mx) (b : Bool) : midP GP g (R6.of m) body (M6.of Q) (ontoV opsF b (M6.of P) 67108864 268435456) = midD RP g m body Q (asM (iterF (rwF16 RP) 0 3 (P, b))) := by
  rw [mid_eq, ontoV_is, od6_is]
  cases b with
  | false => exact midD_same g m body Q (od6_same opsF (fun _ _ => rfl) P)
  | true => exact midD_same g m body Q (.of_bad rfl rfl)
def proD (g : Gs) (m : Nat → Int) (body : P2) (z : (Mx × Mx) × Bool) : GCB × Bool := midD RP g m body z.1.2 (asM (iterF (rwF16 RP) 0 3 (z.1.1, z.2)))
theorem proD_same (g : Gs) (m : Nat → Int) (body : P2) {z z' : (Mx × Mx) × Bool} (h : Same z z') : proD g m body z = proD g m body z' := by
  obtain ⟨z, f⟩ := z
  obtain ⟨z', e⟩ := z'
  have h1 : f = e := h.1
  subst h1
  cases f with
  | true =>
    unfold proD
    rw [midD_bad _ _ _ _ _ (by rw [od6_is]; rfl), midD_bad _ _ _ _ _ (by rw [od6_is]; rfl)]
  | false => rw [h.2 rfl]
end Go.Ab
/- The filter's Meet is the document's: from the rows on. -/
namespace Go.Ab
open Go Go.Proofs
def afterP (F : GOps) (g : Gs) (body : P2) (x : X13) (m : R6) (d : X13) (b : Bool) : GCB × Bool :=
  midP F g m body (F.pro (F.pro b d d).2 x d).1 (F.ont (F.pro (F.pro b d d).2 x d).2 (F.pro b d d).1 67108864 268435456)
theorem GP_pro : GP.pro = prodV opsF := rfl
theorem GP_ont : GP.ont = ontoV opsF := rfl
def afterD (g : Gs) (m : Nat → Int) (body : P2) (x d : X13) (b : Bool) : GCB × Bool :=
  proD g m body (((iterF (rwF14 RP x d) 0 6 (mx0, mx0, b)).1, (iterF (rwF14 RP x d) 0 6 (mx0, mx0, b)).2.1), (iterF (rwF14 RP x d) 0 6 (mx0, mx0, b)).2.2)
theorem proD_is (g : Gs) (m : Nat → Int) (body : P2) (P Q : Mx) (b : Bool) : midD RP g m body Q (asM (iterF (rwF16 RP) 0 3 (P, b))) = proD g m body ((P, Q), b) := rfl
theorem after_gen (pr : PFun) (g : Gs) (m : Nat → Int) (body : P2) (x d : X13) (b : Bool) (p q : Mx × Bool) (h1 : pr b d d = (M6.of p.1, p.2)) (h2 : pr p.2 x d = (M6.of q.1, q.2)) :
    midP GP g (R6.of m) body (pr (pr b d d).2 x d).1 (ontoV opsF (pr (pr b d d).2 x d).2 (pr b d d).1 67108864 268435456) = proD g m body ((p.1, q.1), q.2) := by
  rw [h1]
  dsimp only
  rw [h2]
  dsimp only
  rw [diag_meet, proD_is]
theorem bad_pair (g : Bool → Mx × Bool) (p : Mx × Bool) (z : Mx × Mx × Bool) (hp : p.2 = true) (hg : (g true).2 = true) (hz : z.2.2 = true) : Same ((p.1, (g p.2).1), (g p.2).2) ((z.1, z.2.1), z.2.2) := by
  rw [hp]
  exact .of_bad hg hz
theorem prods_true (x d : X13) : Same (((prodO opsF true d.at d.at).1, (prodO opsF (prodO opsF true d.at d.at).2 x.at d.at).1), (prodO opsF (prodO opsF true d.at d.at).2 x.at d.at).2) (((iterF (rwF14 RP x d) 0 6 (mx0, mx0, true)).1, (iterF (rwF14 RP x d) 0 6 (mx0, mx0, true)).2.1), (iterF (rwF14 RP x d) 0 6 (mx0, mx0, true)).2.2) :=
  bad_pair (fun b => prodO opsF b x.at d.at) (prodO opsF true d.at d.at) (iterF (rwF14 RP x d) 0 6 (mx0, mx0, true)) (prodO_bad d d) (prodO_bad x d) (rows_bad x d 6 0 mx0 mx0)
theorem prods_all (x d : X13) (b : Bool) : Same (((prodO opsF b d.at d.at).1, (prodO opsF (prodO opsF b d.at d.at).2 x.at d.at).1), (prodO opsF (prodO opsF b d.at d.at).2 x.at d.at).2) (((iterF (rwF14 RP x d) 0 6 (mx0, mx0, b)).1, (iterF (rwF14 RP x d) 0 6 (mx0, mx0, b)).2.1), (iterF (rwF14 RP x d) 0 6 (mx0, mx0, b)).2.2) := by
  cases b with
  | false => exact prods_same x d
  | true => exact prods_true x d
theorem after_eq (g : Gs) (m : Nat → Int) (body : P2) (x d : X13) (b : Bool) : afterP GP g body x (R6.of m) d b = afterD g m body x d b := by
  unfold afterP afterD
  rw [GP_pro, GP_ont]
  rw [after_gen (prodV opsF) g m body x d b _ _ (prodV_is b d d) (prodV_is _ x d)]
  exact proD_same g m body (prods_all x d b)
end Go.Ab
/- The filter's Meet is the document's: all. -/
namespace Go.Ab
open Go Go.Proofs
def rowsP (F : GOps) (g : Gs) (body : P2) (x : X13) (z : Mx × Bool) : GCB × Bool := afterP F g body x (F.cen z.2 (x13of z.1)).1.m (F.cen z.2 (x13of z.1)).1.x (F.cen z.2 (x13of z.1)).2
def ptsP (F : GOps) (g : Gs) (s : (P2 × P2) × Bool) : GCB × Bool := rowsP F g s.1.2 (F.pt s.2 (g, ())).1 (iterF (meFB F g.q s.1.1 (F.pt s.2 (g, ())).1) 0 13 (mx0, (F.pt s.2 (g, ())).2))
theorem meetO_is (F : GOps) (b : Bool) (g : Gs) (sky body : P2) : meetO F b (g, sky, body, ()) = ptsP F g (iterF (meFA F) 0 2 ((sky, body), b)) := rfl
theorem GP_cen : GP.cen = centerV opsF := rfl
theorem GP_pt : GP.pt = ptF := rfl
def rowsG (F : ROps) (g : Gs) (body : P2) (m : (Nat → Int) × Bool) (c : Mx × Mx × Bool) : GCB × Bool := midD F g m.1 body c.2.1 (asM (iterF (rwF16 F) 0 3 (c.1, c.2.2)))
theorem rmeetO_is (F : ROps) (b : Bool) (g : Gs) (sky body : P2) : rmeetO F b (g, sky, body, ()) =
    (let s := iterF (rwF2 F) 0 2 (sky, body, b)
     let x := F.pt s.2.2 (g, ())
     let z := iterF (rwF6 F g s.1 x.1) 0 13 (mx0, x.2)
     let m := iterF (rwF9 F z.1) 0 6 (fun _ => 0, z.2)
     let d := F.ls m.2 (x13of z.1, R6.of m.1, ())
     rowsG F g s.2.1 m (iterF (rwF14 F x.1 d.1) 0 6 (mx0, mx0, d.2))) := rfl
end Go.Ab
/- The filter's Meet is the document's: the end of the proof. -/
namespace Go.Ab
open Go Go.Proofs
theorem rowsG_pro (g : Gs) (body : P2) (m : (Nat → Int) × Bool) (c : Mx × Mx × Bool) : rowsG RP g body m c = proD g m.1 body ((c.1, c.2.1), c.2.2) := by
  unfold rowsG
  rw [proD_is]
theorem rowsG_is (g : Gs) (body : P2) (x d : X13) (m : (Nat → Int) × Bool) (b : Bool) : rowsG RP g body m (iterF (rwF14 RP x d) 0 6 (mx0, mx0, b)) = afterD g m.1 body x d b := by
  unfold afterD
  rw [rowsG_pro]
theorem rows_eq (g : Gs) (body : P2) (x : X13) (z : Mx × Bool) : rowsP GP g body x z = afterD g (iterF (rvF11 RP z.1) 0 6 (fun _ => 0, z.2)).1 body x (lessO opsF (iterF (rvF11 RP z.1) 0 6 (fun _ => 0, z.2)).2 (x13of z.1, R6.of (iterF (rvF11 RP z.1) 0 6 (fun _ => 0, z.2)).1, ())).1 (lessO opsF (iterF (rvF11 RP z.1) 0 6 (fun _ => 0, z.2)).2 (x13of z.1, R6.of (iterF (rvF11 RP z.1) 0 6 (fun _ => 0, z.2)).1, ())).2 := by
  unfold rowsP
  rw [GP_cen, center_same]
  dsimp only
  rw [after_eq]
theorem meet_eq (b : Bool) (g : Gs) (sky body : P2) : meetO GP b (g, sky, body, ()) = rmeetO RP b (g, sky, body, ()) := by
  rw [meetO_is, rmeetO_is, units_same]
  dsimp only
  rw [rowsG_is, RP_pt, RP_ls]
  generalize iterF (meFA GP) 0 2 ((sky, body), b) = s
  unfold ptsP
  rw [rows_eq, GP_pt, seen_fun]
  rw [means_fun]
end Go.Ab
/- The filter's awake: no turn, and no rate. -/
namespace Go.Ab
open Go Go.Proofs
def eqI4 (a b : V4) : Bool := a.w == b.w && (a.x == b.x && (a.y == b.y && (a.z == b.z && true)))
theorem aw20 (st : V4 × Unit → Gs) (mv : Bool → Gs × V3 × Int × Unit → Gs × Bool) (sp : Bool → Gs × Unit → Int × Bool) : fnSum Tryz.prog { gam := [(48, S0 st), (49, S 57 mv), (50, S 57 sp)] } [] 20 20 [] [] =
    bif eqI4 (mv false (st (⟨0, 0, 0, 1099511627776⟩, ()), ⟨0, 0, 0⟩, 1000, ())).1.q ⟨0, 0, 0, 1099511627776⟩ then bif decide ((mv false (st (⟨0, 0, 0, 1099511627776⟩, ()), ⟨0, 0, 0⟩, 1000, ())).1.p.a.a > (st (⟨0, 0, 0, 1099511627776⟩, ())).p.a.a) then
      bif !(mv false (st (⟨0, 0, 0, 1099511627776⟩, ()), ⟨0, 0, 0⟩, 1000, ())).2 then some (.val (.bool ((sp (mv false (st (⟨0, 0, 0, 1099511627776⟩, ()), ⟨0, 0, 0⟩, 1000, ())).2 (st (⟨0, 0, 0, 1099511627776⟩, ()), ())).1 == 51539607552)), []) else some (.val (.bool false), []) else some (.val (.bool false), []) else some (.val (.bool false), []) := by kernel_rfl
def awG : Gs := start ⟨0, 0, 0, 1099511627776⟩
def awX : X13 := ⟨⟨0, 0, 0, 0, 0, 0⟩, ⟨363629291340, 0, 0, 0, 0, 0⟩, ⟨0, 363629291340, 0, 0, 0, 0⟩, ⟨0, 0, 363629291340, 0, 0, 0⟩, ⟨0, 0, 0, 11363415354, 0, 0⟩, ⟨0, 0, 0, 0, 11363415354, 0⟩, ⟨0, 0, 0, 0, 0, 11363415354⟩, ⟨(-363629291340), 0, 0, 0, 0, 0⟩, ⟨0, (-363629291340), 0, 0, 0, 0⟩, ⟨0, 0, (-363629291340), 0, 0, 0⟩, ⟨0, 0, 0, (-11363415354), 0, 0⟩, ⟨0, 0, 0, 0, (-11363415354), 0⟩, ⟨0, 0, 0, 0, 0, (-11363415354)⟩⟩
def awT0 : V4 := ⟨0, 0, 0, 1099511627776⟩
def awT1 : V4 := ⟨180580210636, 0, 0, 1084581304994⟩
def awT2 : V4 := ⟨0, 180580210636, 0, 1084581304994⟩
def awT3 : V4 := ⟨0, 0, 180580210636, 1084581304994⟩
def awT4 : V4 := ⟨(-5681669748), 0, 0, 1099496947810⟩
def awT5 : V4 := ⟨0, (-5681669748), 0, 1099496947810⟩
def awT6 : V4 := ⟨0, 0, (-5681669748), 1099496947810⟩
def awT7 : V4 := ⟨(-180580210636), 0, 0, 1084581304994⟩
def awT8 : V4 := ⟨0, (-180580210636), 0, 1084581304994⟩
def awT9 : V4 := ⟨0, 0, (-180580210636), 1084581304994⟩
def awT10 : V4 := ⟨5681669748, 0, 0, 1099496947810⟩
def awT11 : V4 := ⟨0, 5681669748, 0, 1099496947810⟩
def awT12 : V4 := ⟨0, 0, 5681669748, 1099496947810⟩
def awR0 : R6 := ⟨0, 0, 0, 0, 0, 0⟩
def awR1 : R6 := ⟨363629291339, 0, 0, 0, 0, 0⟩
def awR2 : R6 := ⟨0, 363629291339, 0, 0, 0, 0⟩
def awR3 : R6 := ⟨0, 0, 363629291339, 0, 0, 0⟩
def awR4 : R6 := ⟨(-11363415354), 0, 0, 11363415354, 0, 0⟩
def awR5 : R6 := ⟨0, (-11363415354), 0, 0, 11363415354, 0⟩
def awR6 : R6 := ⟨0, 0, (-11363415354), 0, 0, 11363415354⟩
def awR7 : R6 := ⟨(-363629291339), 0, 0, 0, 0, 0⟩
def awR8 : R6 := ⟨0, (-363629291339), 0, 0, 0, 0⟩
def awR9 : R6 := ⟨0, 0, (-363629291339), 0, 0, 0⟩
def awR10 : R6 := ⟨11363415354, 0, 0, (-11363415354), 0, 0⟩
def awR11 : R6 := ⟨0, 11363415354, 0, 0, (-11363415354), 0⟩
def awR12 : R6 := ⟨0, 0, 11363415354, 0, 0, (-11363415354)⟩
def awQ : V4 := ⟨0, 0, 0, 1099511627776⟩
def awD : X13 := ⟨⟨0, 0, 0, 0, 0, 0⟩, ⟨363629291339, 0, 0, 0, 0, 0⟩, ⟨0, 363629291339, 0, 0, 0, 0⟩, ⟨0, 0, 363629291339, 0, 0, 0⟩, ⟨(-11363415354), 0, 0, 11363415354, 0, 0⟩, ⟨0, (-11363415354), 0, 0, 11363415354, 0⟩, ⟨0, 0, (-11363415354), 0, 0, 11363415354⟩, ⟨(-363629291339), 0, 0, 0, 0, 0⟩, ⟨0, (-363629291339), 0, 0, 0, 0⟩, ⟨0, 0, (-363629291339), 0, 0, 0⟩, ⟨11363415354, 0, 0, (-11363415354), 0, 0⟩, ⟨0, 11363415354, 0, 0, (-11363415354), 0⟩, ⟨0, 0, 11363415354, 0, 0, (-11363415354)⟩⟩
def awM : R6 := ⟨0, 0, 0, 0, 0, 0⟩
def awP : M6 := ⟨⟨17196646400, 0, 0, (-16777216), 0, 0⟩, ⟨0, 17196646400, 0, 0, (-16777216), 0⟩, ⟨0, 0, 17196646400, 0, 0, (-16777216)⟩, ⟨(-16777216), 0, 0, 16777216, 0, 0⟩, ⟨0, (-16777216), 0, 0, 16777216, 0⟩, ⟨0, 0, (-16777216), 0, 0, 16777216⟩⟩
def awN : M6 := ⟨⟨17196711936, 0, 0, (-16777216), 0, 0⟩, ⟨0, 17196711936, 0, 0, (-16777216), 0⟩, ⟨0, 0, 17196711936, 0, 0, (-16777216)⟩, ⟨(-16777216), 0, 0, 16778240, 0, 0⟩, ⟨0, (-16777216), 0, 0, 16778240, 0⟩, ⟨0, 0, (-16777216), 0, 0, 16778240⟩⟩
def awH : Gs := ⟨⟨0, 0, 0, 1099511627776⟩, ⟨0, 0, 0⟩, ⟨⟨17196711936, 0, 0, (-16777216), 0, 0⟩, ⟨0, 17196711936, 0, 0, (-16777216), 0⟩, ⟨0, 0, 17196711936, 0, 0, (-16777216)⟩, ⟨(-16777216), 0, 0, 16778240, 0, 0⟩, ⟨0, (-16777216), 0, 0, 16778240, 0⟩, ⟨0, 0, (-16777216), 0, 0, 16778240⟩⟩⟩
def awZ : Mx := (setT (setT (setT (setT (setT (setT (setT (setT (setT (setT (setT (setT (setT mx0 0 awT0) 1 awT1) 2 awT2) 3 awT3) 4 awT4) 5 awT5) 6 awT6) 7 awT7) 8 awT8) 9 awT9) 10 awT10) 11 awT11) 12 awT12)
def awY : Mx := (setX (setX (setX (setX (setX (setX (setX (setX (setX (setX (setX (setX (setX awX.at 0 awR0) 1 awR1) 2 awR2) 3 awR3) 4 awR4) 5 awR5) 6 awR6) 7 awR7) 8 awR8) 9 awR9) 10 awR10) 11 awR11) 12 awR12)
theorem aw_pt : FP.pt (moveB 1000 false) (awG, ()) = (awX, false) := by kernel_rfl
theorem aw_vs : FP.vs false ((⟨0, 0, 0⟩ : V3), awG.bias, ()) = (V3.zero, false) := by kernel_rfl
theorem aw_z0 (T : Mx) : mvF1 FP awG.q V3.zero 1000 awX 0 (T, false) = (setT T 0 awT0, false) := by
  have h : mv1 FP awG.q V3.zero 1000 (awX.row 0) false = (awT0, false) := by kernel_rfl
  unfold mvF1
  rw [h]
theorem aw_y0 (T : Mx) : mvF2 FP awQ awX awZ 0 (T, false) = (setX T 0 awR0, false) := by
  have h : mv2 FP awQ (v4of (awZ 0)) (awX.row 0) false = (awR0, false) := by kernel_rfl
  unfold mvF2
  rw [h]
theorem aw_z1 (T : Mx) : mvF1 FP awG.q V3.zero 1000 awX 1 (T, false) = (setT T 1 awT1, false) := by
  have h : mv1 FP awG.q V3.zero 1000 (awX.row 1) false = (awT1, false) := by kernel_rfl
  unfold mvF1
  rw [h]
theorem aw_y1 (T : Mx) : mvF2 FP awQ awX awZ 1 (T, false) = (setX T 1 awR1, false) := by
  have h : mv2 FP awQ (v4of (awZ 1)) (awX.row 1) false = (awR1, false) := by kernel_rfl
  unfold mvF2
  rw [h]
theorem aw_z2 (T : Mx) : mvF1 FP awG.q V3.zero 1000 awX 2 (T, false) = (setT T 2 awT2, false) := by
  have h : mv1 FP awG.q V3.zero 1000 (awX.row 2) false = (awT2, false) := by kernel_rfl
  unfold mvF1
  rw [h]
theorem aw_y2 (T : Mx) : mvF2 FP awQ awX awZ 2 (T, false) = (setX T 2 awR2, false) := by
  have h : mv2 FP awQ (v4of (awZ 2)) (awX.row 2) false = (awR2, false) := by kernel_rfl
  unfold mvF2
  rw [h]
theorem aw_z3 (T : Mx) : mvF1 FP awG.q V3.zero 1000 awX 3 (T, false) = (setT T 3 awT3, false) := by
  have h : mv1 FP awG.q V3.zero 1000 (awX.row 3) false = (awT3, false) := by kernel_rfl
  unfold mvF1
  rw [h]
theorem aw_y3 (T : Mx) : mvF2 FP awQ awX awZ 3 (T, false) = (setX T 3 awR3, false) := by
  have h : mv2 FP awQ (v4of (awZ 3)) (awX.row 3) false = (awR3, false) := by kernel_rfl
  unfold mvF2
  rw [h]
theorem aw_z4 (T : Mx) : mvF1 FP awG.q V3.zero 1000 awX 4 (T, false) = (setT T 4 awT4, false) := by
  have h : mv1 FP awG.q V3.zero 1000 (awX.row 4) false = (awT4, false) := by kernel_rfl
  unfold mvF1
  rw [h]
theorem aw_y4 (T : Mx) : mvF2 FP awQ awX awZ 4 (T, false) = (setX T 4 awR4, false) := by
  have h : mv2 FP awQ (v4of (awZ 4)) (awX.row 4) false = (awR4, false) := by kernel_rfl
  unfold mvF2
  rw [h]
theorem aw_z5 (T : Mx) : mvF1 FP awG.q V3.zero 1000 awX 5 (T, false) = (setT T 5 awT5, false) := by
  have h : mv1 FP awG.q V3.zero 1000 (awX.row 5) false = (awT5, false) := by kernel_rfl
  unfold mvF1
  rw [h]
theorem aw_y5 (T : Mx) : mvF2 FP awQ awX awZ 5 (T, false) = (setX T 5 awR5, false) := by
  have h : mv2 FP awQ (v4of (awZ 5)) (awX.row 5) false = (awR5, false) := by kernel_rfl
  unfold mvF2
  rw [h]
theorem aw_z6 (T : Mx) : mvF1 FP awG.q V3.zero 1000 awX 6 (T, false) = (setT T 6 awT6, false) := by
  have h : mv1 FP awG.q V3.zero 1000 (awX.row 6) false = (awT6, false) := by kernel_rfl
  unfold mvF1
  rw [h]
theorem aw_y6 (T : Mx) : mvF2 FP awQ awX awZ 6 (T, false) = (setX T 6 awR6, false) := by
  have h : mv2 FP awQ (v4of (awZ 6)) (awX.row 6) false = (awR6, false) := by kernel_rfl
  unfold mvF2
  rw [h]
theorem aw_z7 (T : Mx) : mvF1 FP awG.q V3.zero 1000 awX 7 (T, false) = (setT T 7 awT7, false) := by
  have h : mv1 FP awG.q V3.zero 1000 (awX.row 7) false = (awT7, false) := by kernel_rfl
  unfold mvF1
  rw [h]
theorem aw_y7 (T : Mx) : mvF2 FP awQ awX awZ 7 (T, false) = (setX T 7 awR7, false) := by
  have h : mv2 FP awQ (v4of (awZ 7)) (awX.row 7) false = (awR7, false) := by kernel_rfl
  unfold mvF2
  rw [h]
theorem aw_z8 (T : Mx) : mvF1 FP awG.q V3.zero 1000 awX 8 (T, false) = (setT T 8 awT8, false) := by
  have h : mv1 FP awG.q V3.zero 1000 (awX.row 8) false = (awT8, false) := by kernel_rfl
  unfold mvF1
  rw [h]
theorem aw_y8 (T : Mx) : mvF2 FP awQ awX awZ 8 (T, false) = (setX T 8 awR8, false) := by
  have h : mv2 FP awQ (v4of (awZ 8)) (awX.row 8) false = (awR8, false) := by kernel_rfl
  unfold mvF2
  rw [h]
theorem aw_z9 (T : Mx) : mvF1 FP awG.q V3.zero 1000 awX 9 (T, false) = (setT T 9 awT9, false) := by
  have h : mv1 FP awG.q V3.zero 1000 (awX.row 9) false = (awT9, false) := by kernel_rfl
  unfold mvF1
  rw [h]
theorem aw_y9 (T : Mx) : mvF2 FP awQ awX awZ 9 (T, false) = (setX T 9 awR9, false) := by
  have h : mv2 FP awQ (v4of (awZ 9)) (awX.row 9) false = (awR9, false) := by kernel_rfl
  unfold mvF2
  rw [h]
theorem aw_z10 (T : Mx) : mvF1 FP awG.q V3.zero 1000 awX 10 (T, false) = (setT T 10 awT10, false) := by
  have h : mv1 FP awG.q V3.zero 1000 (awX.row 10) false = (awT10, false) := by kernel_rfl
  unfold mvF1
  rw [h]
theorem aw_y10 (T : Mx) : mvF2 FP awQ awX awZ 10 (T, false) = (setX T 10 awR10, false) := by
  have h : mv2 FP awQ (v4of (awZ 10)) (awX.row 10) false = (awR10, false) := by kernel_rfl
  unfold mvF2
  rw [h]
theorem aw_z11 (T : Mx) : mvF1 FP awG.q V3.zero 1000 awX 11 (T, false) = (setT T 11 awT11, false) := by
  have h : mv1 FP awG.q V3.zero 1000 (awX.row 11) false = (awT11, false) := by kernel_rfl
  unfold mvF1
  rw [h]
theorem aw_y11 (T : Mx) : mvF2 FP awQ awX awZ 11 (T, false) = (setX T 11 awR11, false) := by
  have h : mv2 FP awQ (v4of (awZ 11)) (awX.row 11) false = (awR11, false) := by kernel_rfl
  unfold mvF2
  rw [h]
theorem aw_z12 (T : Mx) : mvF1 FP awG.q V3.zero 1000 awX 12 (T, false) = (setT T 12 awT12, false) := by
  have h : mv1 FP awG.q V3.zero 1000 (awX.row 12) false = (awT12, false) := by kernel_rfl
  unfold mvF1
  rw [h]
theorem aw_y12 (T : Mx) : mvF2 FP awQ awX awZ 12 (T, false) = (setX T 12 awR12, false) := by
  have h : mv2 FP awQ (v4of (awZ 12)) (awX.row 12) false = (awR12, false) := by kernel_rfl
  unfold mvF2
  rw [h]
theorem aw_z : iterF (mvF1 FP awG.q V3.zero 1000 awX) 0 13 (mx0, false) = (awZ, false) := by
  simp only [iterF, Nat.zero_add, Nat.reduceAdd, aw_z0, aw_z1, aw_z2, aw_z3, aw_z4, aw_z5, aw_z6, aw_z7, aw_z8, aw_z9, aw_z10, aw_z11, aw_z12]
  rfl
theorem aw_y : iterF (mvF2 FP awQ awX awZ) 0 13 (awX.at, false) = (awY, false) := by
  simp only [iterF, Nat.zero_add, Nat.reduceAdd, aw_y0, aw_y1, aw_y2, aw_y3, aw_y4, aw_y5, aw_y6, aw_y7, aw_y8, aw_y9, aw_y10, aw_y11, aw_y12]
  rfl
theorem aw_un : FP.un false (v4of (awZ 0), ()) = (awQ, false) := by kernel_rfl
theorem aw_cen : FP.cen false (x13of awY) = (⟨awD, awM⟩, false) := by kernel_rfl
theorem aw_pro : FP.pro false awD awD = (awP, false) := by kernel_rfl
theorem aw_mv3 : mv3 FP 1000 awP false = (awN, false) := by kernel_rfl
theorem aw_st : FP.st false (awQ, awG.bias, awM, awN, ()) = (⟨awH, true⟩, false) := by kernel_rfl
theorem aw_move : moveO FP false (awG, ⟨0, 0, 0⟩, 1000, ()) = (awH, false) := by
  unfold moveO
  dsimp only
  rw [aw_pt]
  dsimp only
  rw [aw_vs]
  dsimp only
  rw [aw_z]
  dsimp only
  rw [aw_un]
  dsimp only
  rw [aw_y]
  dsimp only
  rw [aw_cen]
  dsimp only
  rw [aw_pro]
  dsimp only
  rw [aw_mv3]
  dsimp only
  rw [aw_st]
theorem aw_spread : (spread opsF false awG).1 = 51539607552 := by kernel_rfl
theorem aw_gen {st : V4 × Unit → Gs} {mv : Bool → Gs × V3 × Int × Unit → Gs × Bool} {sp : Bool → Gs × Unit → Int × Bool} {g h : Gs} (hg : st (⟨0, 0, 0, 1099511627776⟩, ()) = g) (hm : mv false (g, ⟨0, 0, 0⟩, 1000, ()) = (h, false)) (hq : eqI4 h.q ⟨0, 0, 0, 1099511627776⟩ = true)
    (hp : decide (h.p.a.a > g.p.a.a) = true) (hs : (sp false (g, ())).1 = 51539607552) : fnSum Tryz.prog { gam := [(48, S0 st), (49, S 57 mv), (50, S 57 sp)] } [] 20 20 [] [] = some (.val (.bool true), []) := by
  rw [aw20, hg, hm]
  dsimp only
  rw [hq, hp, hs]
  rfl
def startV (p : V4 × Unit) : Gs := start p.1
def spreadV (b : Bool) (p : Gs × Unit) : Int × Bool := spread opsF b p.1
def moveV : Bool → Gs × V3 × Int × Unit → Gs × Bool := moveO FP
theorem okStart : SumOk Tryz.prog 48 (S0 startV) := ok105
theorem okSpread : SumOk Tryz.prog 50 (S 57 spreadV) := ok109
theorem okMoveV : SumOk Tryz.prog 49 (S 57 moveV) := okMoveF
theorem okAwake : SumOk Tryz.prog 20 (S0 fun (_ : Unit) => true) := S0_ok (E := { gam := [(48, S0 startV), (49, S 57 moveV), (50, S 57 spreadV)] }) (.cons okStart (.cons okMoveV (.cons okSpread .nil))) 20 fun a => by
  have e := aw_gen (st := startV) (mv := moveV) (sp := spreadV) (g := awG) (h := awH) rfl aw_move rfl (by decide) aw_spread
  exact e
end Go.Ab
/- FilterMeets: what a guess is behind what is seen, and how far off that was, are the document's. -/
namespace Go.Ab
open Go Go.Proofs
def eqJ : List Int → List Int → Bool
  | a :: r, b :: t => a == b && eqJ r t
  | _, _ => true
theorem eqJ_self : ∀ l : List Int, eqJ l l = true
  | [] => rfl
  | a :: r => by simp [eqJ, eqJ_self r]
def R6.js (r : R6) : List Int := [r.a, r.b, r.c, r.d, r.e, r.f]
def gsJ (a b : Gs) : Bool := eqJ [a.q.w, a.q.x, a.q.y, a.q.z] [b.q.w, b.q.x, b.q.y, b.q.z] && (eqJ [a.bias.x, a.bias.y, a.bias.z] [b.bias.x, b.bias.y, b.bias.z] &&
  ((eqJ a.p.a.js b.p.a.js && (eqJ a.p.b.js b.p.b.js && (eqJ a.p.c.js b.p.c.js && (eqJ a.p.d.js b.p.d.js && (eqJ a.p.e.js b.p.e.js && (eqJ a.p.f.js b.p.f.js && true)))))) && true))
theorem gsJ_self (a : Gs) : gsJ a a = true := by simp [gsJ, eqJ_self]
theorem law6 (me : Bool → Gs × P2 × P2 × Unit → GCB × Bool) (a0 a1 a2 a3 a4 a5 a6 a7 a8 a9 a10 a11 a12 a13 a14 a15 a16 a17 a18 a19 a20 a21 a22 a23 a24 a25 a26 a27 a28 a29 a30 a31 a32 a33 a34 a35 a36 a37 a38 a39 a40 a41 a42 s0 s1 s2 s3 s4 s5 b0 b1 b2 b3 b4 b5 : Int) : fnSum Tryz.prog { gam := [(20, S0 fun (_ : Unit) => true), (21, S 57 me), (22, S 59 me)] } [] 20 6 (List.map AV.val [.agg #[.int .i64 a0, .int .i64 a1, .int .i64 a2, .int .i64 a3, .int .i64 a4, .int .i64 a5, .int .i64 a6, .int .i64 a7, .int .i64 a8, .int .i64 a9, .int .i64 a10, .int .i64 a11, .int .i64 a12, .int .i64 a13, .int .i64 a14, .int .i64 a15, .int .i64 a16, .int .i64 a17, .int .i64 a18, .int .i64 a19, .int .i64 a20, .int .i64 a21, .int .i64 a22, .int .i64 a23, .int .i64 a24, .int .i64 a25, .int .i64 a26, .int .i64 a27, .int .i64 a28, .int .i64 a29, .int .i64 a30, .int .i64 a31, .int .i64 a32, .int .i64 a33, .int .i64 a34, .int .i64 a35, .int .i64 a36, .int .i64 a37, .int .i64 a38, .int .i64 a39, .int .i64 a40, .int .i64 a41, .int .i64 a42], .agg #[.int .i64 s0, .int .i64 s1, .int .i64 s2, .int .i64 s3, .int .i64 s4, .int .i64 s5], .agg #[.int .i64 b0, .int .i64 b1, .int .i64 b2, .int .i64 b3, .int .i64 b4, .int .i64 b5]]) [] =
    bif gsJ (me false (⟨⟨a0, a1, a2, a3⟩, ⟨a4, a5, a6⟩, ⟨⟨a7, a8, a9, a10, a11, a12⟩, ⟨a13, a14, a15, a16, a17, a18⟩, ⟨a19, a20, a21, a22, a23, a24⟩, ⟨a25, a26, a27, a28, a29, a30⟩, ⟨a31, a32, a33, a34, a35, a36⟩, ⟨a37, a38, a39, a40, a41, a42⟩⟩⟩, ⟨⟨s0, s1, s2⟩, ⟨s3, s4, s5⟩⟩, ⟨⟨b0, b1, b2⟩, ⟨b3, b4, b5⟩⟩, ())).1.g (me false (⟨⟨a0, a1, a2, a3⟩, ⟨a4, a5, a6⟩, ⟨⟨a7, a8, a9, a10, a11, a12⟩, ⟨a13, a14, a15, a16, a17, a18⟩, ⟨a19, a20, a21, a22, a23, a24⟩, ⟨a25, a26, a27, a28, a29, a30⟩, ⟨a31, a32, a33, a34, a35, a36⟩, ⟨a37, a38, a39, a40, a41, a42⟩⟩⟩, ⟨⟨s0, s1, s2⟩, ⟨s3, s4, s5⟩⟩, ⟨⟨b0, b1, b2⟩, ⟨b3, b4, b5⟩⟩, ())).1.g then bif (me false (⟨⟨a0, a1, a2, a3⟩, ⟨a4, a5, a6⟩, ⟨⟨a7, a8, a9, a10, a11, a12⟩, ⟨a13, a14, a15, a16, a17, a18⟩, ⟨a19, a20, a21, a22, a23, a24⟩, ⟨a25, a26, a27, a28, a29, a30⟩, ⟨a31, a32, a33, a34, a35, a36⟩, ⟨a37, a38, a39, a40, a41, a42⟩⟩⟩, ⟨⟨s0, s1, s2⟩, ⟨s3, s4, s5⟩⟩, ⟨⟨b0, b1, b2⟩, ⟨b3, b4, b5⟩⟩, ())).1.chi == (me false (⟨⟨a0, a1, a2, a3⟩, ⟨a4, a5, a6⟩, ⟨⟨a7, a8, a9, a10, a11, a12⟩, ⟨a13, a14, a15, a16, a17, a18⟩, ⟨a19, a20, a21, a22, a23, a24⟩, ⟨a25, a26, a27, a28, a29, a30⟩, ⟨a31, a32, a33, a34, a35, a36⟩, ⟨a37, a38, a39, a40, a41, a42⟩⟩⟩, ⟨⟨s0, s1, s2⟩, ⟨s3, s4, s5⟩⟩, ⟨⟨b0, b1, b2⟩, ⟨b3, b4, b5⟩⟩, ())).1.chi then bif (me false (⟨⟨a0, a1, a2, a3⟩, ⟨a4, a5, a6⟩, ⟨⟨a7, a8, a9, a10, a11, a12⟩, ⟨a13, a14, a15, a16, a17, a18⟩, ⟨a19, a20, a21, a22, a23, a24⟩, ⟨a25, a26, a27, a28, a29, a30⟩, ⟨a31, a32, a33, a34, a35, a36⟩, ⟨a37, a38, a39, a40, a41, a42⟩⟩⟩, ⟨⟨s0, s1, s2⟩, ⟨s3, s4, s5⟩⟩, ⟨⟨b0, b1, b2⟩, ⟨b3, b4, b5⟩⟩, ())).1.ok == (me false (⟨⟨a0, a1, a2, a3⟩, ⟨a4, a5, a6⟩, ⟨⟨a7, a8, a9, a10, a11, a12⟩, ⟨a13, a14, a15, a16, a17, a18⟩, ⟨a19, a20, a21, a22, a23, a24⟩, ⟨a25, a26, a27, a28, a29, a30⟩, ⟨a31, a32, a33, a34, a35, a36⟩, ⟨a37, a38, a39, a40, a41, a42⟩⟩⟩, ⟨⟨s0, s1, s2⟩, ⟨s3, s4, s5⟩⟩, ⟨⟨b0, b1, b2⟩, ⟨b3, b4, b5⟩⟩, ())).1.ok then
      some (.val (.bool ((me false (⟨⟨a0, a1, a2, a3⟩, ⟨a4, a5, a6⟩, ⟨⟨a7, a8, a9, a10, a11, a12⟩, ⟨a13, a14, a15, a16, a17, a18⟩, ⟨a19, a20, a21, a22, a23, a24⟩, ⟨a25, a26, a27, a28, a29, a30⟩, ⟨a31, a32, a33, a34, a35, a36⟩, ⟨a37, a38, a39, a40, a41, a42⟩⟩⟩, ⟨⟨s0, s1, s2⟩, ⟨s3, s4, s5⟩⟩, ⟨⟨b0, b1, b2⟩, ⟨b3, b4, b5⟩⟩, ())).2 == (me false (⟨⟨a0, a1, a2, a3⟩, ⟨a4, a5, a6⟩, ⟨⟨a7, a8, a9, a10, a11, a12⟩, ⟨a13, a14, a15, a16, a17, a18⟩, ⟨a19, a20, a21, a22, a23, a24⟩, ⟨a25, a26, a27, a28, a29, a30⟩, ⟨a31, a32, a33, a34, a35, a36⟩, ⟨a37, a38, a39, a40, a41, a42⟩⟩⟩, ⟨⟨s0, s1, s2⟩, ⟨s3, s4, s5⟩⟩, ⟨⟨b0, b1, b2⟩, ⟨b3, b4, b5⟩⟩, ())).2)), []) else some (.val (.bool false), []) else some (.val (.bool false), []) else some (.val (.bool false), []) := by kernel_rfl
theorem law6_true (me : Bool → Gs × P2 × P2 × Unit → GCB × Bool) (a0 a1 a2 a3 a4 a5 a6 a7 a8 a9 a10 a11 a12 a13 a14 a15 a16 a17 a18 a19 a20 a21 a22 a23 a24 a25 a26 a27 a28 a29 a30 a31 a32 a33 a34 a35 a36 a37 a38 a39 a40 a41 a42 s0 s1 s2 s3 s4 s5 b0 b1 b2 b3 b4 b5 : Int) : fnSum Tryz.prog { gam := [(20, S0 fun (_ : Unit) => true), (21, S 57 me), (22, S 59 me)] } [] 20 6 (List.map AV.val [.agg #[.int .i64 a0, .int .i64 a1, .int .i64 a2, .int .i64 a3, .int .i64 a4, .int .i64 a5, .int .i64 a6, .int .i64 a7, .int .i64 a8, .int .i64 a9, .int .i64 a10, .int .i64 a11, .int .i64 a12, .int .i64 a13, .int .i64 a14, .int .i64 a15, .int .i64 a16, .int .i64 a17, .int .i64 a18, .int .i64 a19, .int .i64 a20, .int .i64 a21, .int .i64 a22, .int .i64 a23, .int .i64 a24, .int .i64 a25, .int .i64 a26, .int .i64 a27, .int .i64 a28, .int .i64 a29, .int .i64 a30, .int .i64 a31, .int .i64 a32, .int .i64 a33, .int .i64 a34, .int .i64 a35, .int .i64 a36, .int .i64 a37, .int .i64 a38, .int .i64 a39, .int .i64 a40, .int .i64 a41, .int .i64 a42], .agg #[.int .i64 s0, .int .i64 s1, .int .i64 s2, .int .i64 s3, .int .i64 s4, .int .i64 s5], .agg #[.int .i64 b0, .int .i64 b1, .int .i64 b2, .int .i64 b3, .int .i64 b4, .int .i64 b5]]) [] = some (.val (.bool true), []) := by
  rw [law6, gsJ_self, cond_true, BEq.rfl, cond_true, BEq.rfl, cond_true, BEq.rfl]
def meetV : Bool → Gs × P2 × P2 × Unit → GCB × Bool := meetO GP
theorem okMeetV : SumOk Tryz.prog 21 (S 57 meetV) := okMeetF
theorem meetR_is : rmeetO RP = meetV := by
  funext b a
  obtain ⟨g, sky, body, u⟩ := a
  exact (meet_eq b g sky body).symm
theorem okMeetW : SumOk Tryz.prog 22 (S 59 meetV) := by
  have h := okMeetR
  rw [meetR_is] at h
  exact h
set_option maxRecDepth 8000 in
theorem FilterMeets_calls (a0 a1 a2 a3 a4 a5 a6 a7 a8 a9 a10 a11 a12 a13 a14 a15 a16 a17 a18 a19 a20 a21 a22 a23 a24 a25 a26 a27 a28 a29 a30 a31 a32 a33 a34 a35 a36 a37 a38 a39 a40 a41 a42 s0 s1 s2 s3 s4 s5 b0 b1 b2 b3 b4 b5 : Int) (w : World) : Calls Tryz.prog 6 #[.agg #[.int .i64 a0, .int .i64 a1, .int .i64 a2, .int .i64 a3, .int .i64 a4, .int .i64 a5, .int .i64 a6, .int .i64 a7, .int .i64 a8, .int .i64 a9, .int .i64 a10, .int .i64 a11, .int .i64 a12, .int .i64 a13, .int .i64 a14, .int .i64 a15, .int .i64 a16, .int .i64 a17, .int .i64 a18, .int .i64 a19, .int .i64 a20, .int .i64 a21, .int .i64 a22, .int .i64 a23, .int .i64 a24, .int .i64 a25, .int .i64 a26, .int .i64 a27, .int .i64 a28, .int .i64 a29, .int .i64 a30, .int .i64 a31, .int .i64 a32, .int .i64 a33, .int .i64 a34, .int .i64 a35, .int .i64 a36, .int .i64 a37, .int .i64 a38, .int .i64 a39, .int .i64 a40, .int .i64 a41, .int .i64 a42], .agg #[.int .i64 s0, .int .i64 s1, .int .i64 s2, .int .i64 s3, .int .i64 s4, .int .i64 s5], .agg #[.int .i64 b0, .int .i64 b1, .int .i64 b2, .int .i64 b3, .int .i64 b4, .int .i64 b5]] w fun e w' => e = .returned (.bool true) ∧ RowKit.Below w.heap.size w w' :=
  calls_of_sum (E := { gam := [(20, S0 fun (_ : Unit) => true), (21, S 57 meetV), (22, S 59 meetV)] }) (.cons okAwake (.cons okMeetV (.cons okMeetW .nil))) (law6_true meetV a0 a1 a2 a3 a4 a5 a6 a7 a8 a9 a10 a11 a12 a13 a14 a15 a16 a17 a18 a19 a20 a21 a22 a23 a24 a25 a26 a27 a28 a29 a30 a31 a32 a33 a34 a35 a36 a37 a38 a39 a40 a41 a42 s0 s1 s2 s3 s4 s5 b0 b1 b2 b3 b4 b5) w
end Go.Ab
/- What the words at a translation's head say, of any program. -/
namespace Go.Ab
theorem make_of {P : Program} {rest : List (List Char)} (h : behindMainWord (wordsSigns P.initOrder.toList) = "cut".toList :: rest) : P.make = some .cut := by
  unfold Program.make
  rw [h]
  kernel_rfl
theorem headLifts_of {P : Program} {rest : List (List Char)} (h : behindMainWord (wordsSigns P.initOrder.toList) = "cut".toList :: rest) : P.headLifts = [] := by
  unfold Program.headLifts
  rw [h]
  kernel_rfl
theorem liftsFinal_of {P : Program} {rest : List (List Char)} (h : behindMainWord (wordsSigns P.initOrder.toList) = "cut".toList :: rest) : P.liftsFinal = false := by
  unfold Program.liftsFinal
  rw [headLifts_of h, h]
  kernel_rfl
theorem mayEnter_of {P : Program} {rest : List (List Char)} (h : behindMainWord (wordsSigns P.initOrder.toList) = "cut".toList :: rest) (h1 : P.laysLater = false) (h2 : P.bearsReflect = false) (h3 : P.doorFits [] = true) : P.mayEnter = true := by
  have hs : stripLifts liftWords ("cut".toList :: rest) = ([], "cut".toList :: rest) := by kernel_rfl
  unfold Program.mayEnter
  rw [h]
  simp only [hs, h1, h2, h3]
  simp
end Go.Ab
