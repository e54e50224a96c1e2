/- A part of the proofs: lemmas, no statement of their own; no condition. -/
import Derived.Test.YtccgjhdpiaglaaaFjB
import Derived.Test.YtccgjhdpiaglaaaFjC
/- The filter's products as summaries; onto, halves, join, turned, settle. -/
namespace Go.Ab
open Go Go.Proofs
theorem allVals_map : ∀ {l : List AV} {vs : List Value}, allVals l = some vs → l = vs.map .val
  | [], vs, h => by simp only [allVals, Option.some.injEq] at h; subst h; rfl
  | a :: l, vs, h => by
    cases a with
    | val v =>
      simp only [allVals] at h
      split at h
      · rename_i ws hw
        cases h
        rw [allVals_map hw]
        rfl
      · cases h
    | _ => simp [allVals] at h
/-- A value that lies in a row of cells. -/
def rdCod (α : Type) [Cod α] (l : List AV) : Option α := match allVals l with
  | some vs => Cod.dec (.agg ⟨vs⟩)
  | none => none
theorem rdCod_law {α : Type} [Cod α] {l : List AV} {x : α} (h : rdCod α l = some x) : ∃ vs, l = vs.map .val ∧ Cod.enc x = .agg ⟨vs⟩ := by
  unfold rdCod at h
  split at h
  · rename_i vs hv
    exact ⟨vs, allVals_map hv, (Cod.law _ _ h).symm⟩
  · cases h
def X13.av (x : X13) : List AV := (cellsL x.rows).map .val
theorem rdX13 {l : List AV} {x : X13} (h : rdCod X13 l = some x) : l = x.av := by
  obtain ⟨vs, rfl, h2⟩ := rdCod_law h
  have : Value.agg ⟨cellsL x.rows⟩ = .agg ⟨vs⟩ := h2
  injection this with h3
  injection h3 with h4
  unfold X13.av
  rw [h4]
def X13.at (x : X13) : Mx
  | 0 => x.r0.at
  | 1 => x.r1.at
  | 2 => x.r2.at
  | 3 => x.r3.at
  | 4 => x.r4.at
  | 5 => x.r5.at
  | 6 => x.r6.at
  | 7 => x.r7.at
  | 8 => x.r8.at
  | 9 => x.r9.at
  | 10 => x.r10.at
  | 11 => x.r11.at
  | 12 => x.r12.at
  | _ => fun _ => 0
theorem at_av (x : X13) : cells13 x.at = x.av := by kernel_rfl
theorem of_av (X : Mx) : cells13 X = (x13of X).av := by kernel_rfl
def M6.av (m : M6) : List AV := (m6c m).map .val
theorem rdM6 {l : List AV} {m : M6} (h : rdCod M6 l = some m) : l = m.av := by
  obtain ⟨vs, rfl, h2⟩ := rdCod_law h
  have : Value.agg ⟨m6c m⟩ = .agg ⟨vs⟩ := h2
  injection this with h3
  injection h3 with h4
  unfold M6.av
  rw [h4]
theorem at_av6 (m : M6) : cells36 m.at = m.av := by kernel_rfl
theorem of_av6 (X : Mx) : cells36 X = (M6.of X).av := by kernel_rfl
structure XR where
  x : X13
  m : R6
abbrev CFun := Bool → X13 → XR × Bool
abbrev PFun := Bool → X13 → X13 → M6 × Bool
abbrev OFun := Bool → M6 → Int → Int → M6 × Bool
def centerV (o : Ops) : CFun := fun b x => (⟨x13of (centerO o b x.at).1.1, R6.of (centerO o b x.at).1.2⟩, (centerO o b x.at).2)
def prodV (o : Ops) : PFun := fun b x y => (M6.of (prodO o b x.at y.at).1, (prodO o b x.at y.at).2)
def ctrS (g : CFun) : Summary := fun args cs => match args, cs with
  | [.ptr 0 0, .ptr 1 0], [.row e l, .row e2 [.val (.bool b)]] => match Nat.beq e 111 && Nat.beq e2 25, rdCod X13 l with
    | true, some x => .ret (.val (Cod.enc (g b x).1.m)) [.row 111 (g b x).1.x.av, .row 25 [.val (.bool (g b x).2)]]
    | _, _ => .no
  | _, _ => .no
theorem ren13' (x : X13) (b : Bool) : renCs (upTo 2) [.row 111 x.av, .row 25 [.val (.bool b)]] = some [.row 111 x.av, .row 25 [.val (.bool b)]] := by kernel_rfl
theorem okCtr {o : Ops} (hG : GamOk Try.prog (gamN o)) : SumOk Try.prog 107 (ctrS (centerV o)) := by
  intro args cs r cs' h
  unfold ctrS at h
  split at h
  · split at h
    · rename_i e l e2 b _ _ x he hv
      simp only [STr.sel, Option.some.injEq, Prod.mk.injEq] at h
      obtain ⟨rfl, rfl⟩ := h
      simp only [Bool.and_eq_true] at he
      rw [Nat.eq_of_beq_eq_true he.1, Nat.eq_of_beq_eq_true he.2, rdX13 hv]
      have hrun := center_runs (o := o) hG x.at b
      rw [at_av] at hrun
      refine sum_runs f57_is (c := ctC) (by unfold ctC; rw [ctC_is]; rfl) ctN (by simp) (by simp) rfl rfl (ren13' x b) (.inr rfl) hrun (cqR ..) rfl rfl (fun b' c hb => ?_) rfl (ren13' ..)
      match b', hb with
      | 0, hb => cases hb; exact congrArg (fun l => some (Con.row 111 l)) (of_av _)
      | 1, hb => cases hb; rfl
      | n + 2, hb => simp at hb
    · simp [STr.sel] at h
  · simp [STr.sel] at h
def prdS (g : PFun) : Summary := fun args cs => match args, cs with
  | [.ptr 0 0, .ptr 1 0, .ptr 1 0], [.row e [.val (.bool b)], .row e1 l] => match Nat.beq e 25 && Nat.beq e1 111, rdCod X13 l with
    | true, some x => .ret (.val (Cod.enc (g b x x).1)) [.row 25 [.val (.bool (g b x x).2)], .row 111 x.av]
    | _, _ => .no
  | [.ptr 0 0, .ptr 1 0, .ptr 2 0], [.row e [.val (.bool b)], .row e1 l, .row e2 k] => match Nat.beq e 25 && (Nat.beq e1 111 && Nat.beq e2 111), rdCod X13 l, rdCod X13 k with
    | true, some x, some y => .ret (.val (Cod.enc (g b x y).1)) [.row 25 [.val (.bool (g b x y).2)], .row 111 x.av, .row 111 y.av]
    | _, _, _ => .no
  | _, _ => .no
theorem ren_s (x : X13) (b : Bool) : renCs (upTo 2) [.row 25 [.val (.bool b)], .row 111 x.av] = some [.row 25 [.val (.bool b)], .row 111 x.av] := by kernel_rfl
theorem ren_d (x y : X13) (b : Bool) : renCs (upTo 3) [.row 25 [.val (.bool b)], .row 111 x.av, .row 111 y.av] = some [.row 25 [.val (.bool b)], .row 111 x.av, .row 111 y.av] := by kernel_rfl
theorem okPrd {o : Ops} (hG : GamOk Try.prog (gamN o)) : SumOk Try.prog 108 (prdS (prodV o)) := by
  intro args cs r cs' h
  have hb : Try.f108.body = some prC := by unfold prC; rw [prC_is]; rfl
  unfold prdS at h
  split at h
  · split at h
    · rename_i e b e1 l _ _ x he hv
      simp only [STr.sel, Option.some.injEq, Prod.mk.injEq] at h
      obtain ⟨rfl, rfl⟩ := h
      simp only [Bool.and_eq_true] at he
      rw [Nat.eq_of_beq_eq_true he.1, Nat.eq_of_beq_eq_true he.2, rdX13 hv]
      have hrun := ps_runs (o := o) hG x.at b
      rw [at_av] at hrun
      refine sum_runs f58_is hb prN (by simp) (by simp) rfl rfl (ren_s x b) (.inr rfl) hrun (psr ..) rfl rfl (fun b' c hb => ?_) rfl (ren_s ..)
      match b', hb with
      | 0, hb => cases hb; rfl
      | 1, hb => cases hb; exact congrArg (fun l => some (Con.row 111 l)) (at_av x)
      | n + 2, hb => simp at hb
    · simp [STr.sel] at h
  · split at h
    · rename_i e b e1 l e2 k _ _ _ x y he hv hu
      simp only [STr.sel, Option.some.injEq, Prod.mk.injEq] at h
      obtain ⟨rfl, rfl⟩ := h
      simp only [Bool.and_eq_true] at he
      rw [Nat.eq_of_beq_eq_true he.1, Nat.eq_of_beq_eq_true he.2.1, Nat.eq_of_beq_eq_true he.2.2, rdX13 hv, rdX13 hu]
      have hrun := pd_runs (o := o) hG x.at y.at b
      rw [at_av, at_av] at hrun
      refine sum_runs f58_is hb prN (by simp) (by simp) rfl rfl (ren_d x y b) (.inr rfl) hrun (pdr ..) rfl rfl (fun b' c hb => ?_) rfl (ren_d ..)
      match b', hb with
      | 0, hb => cases hb; rfl
      | 1, hb => cases hb; exact congrArg (fun l => some (Con.row 111 l)) (at_av x)
      | 2, hb => cases hb; exact congrArg (fun l => some (Con.row 111 l)) (at_av y)
      | n + 3, hb => simp at hb
    · simp [STr.sel] at h
  · simp [STr.sel] at h
/-- Two numbers are added to a diagonal, three times each. -/
def ontoO (o : Ops) (b : Bool) (m : Mx) (p q : Int) : Mx × Bool :=
  let s0 := o.add b (m 0 0) p
  let s1 := o.add s0.2 (m 1 1) p
  let s2 := o.add s1.2 (m 2 2) p
  let s3 := o.add s2.2 (m 3 3) q
  let s4 := o.add s3.2 (m 4 4) q
  let s5 := o.add s4.2 (m 5 5) q
  (setM (setM (setM (setM (setM (setM m 0 0 s0.1) 1 1 s1.1) 2 2 s2.1) 3 3 s3.1) 4 4 s4.1) 5 5 s5.1, s5.2)
theorem onto59 (o : Ops) (b : Bool) (m : Mx) (p q : Int) : fnSum Try.prog { gam := gamN o } [] 20 109 [.ptr 0 0, .ptr 1 0, .val (.int .i64 p), .val (.int .i64 q)] [.row 25 [.val (.bool b)], .row 47 (cells36 m)] =
    some (.val (.tuple #[]), [.row 25 [.val (.bool (ontoO o b m p q).2)], .row 47 (cells36 (ontoO o b m p q).1)]) := by kernel_rfl
def ontoV (o : Ops) : OFun := fun b m p q => (M6.of (ontoO o b m.at p q).1, (ontoO o b m.at p q).2)
def ontS (g : OFun) : Summary := fun args cs => match args, cs with
  | [.ptr 0 0, .ptr 1 0, .val (.int .i64 p), .val (.int .i64 q)], [.row e [.val (.bool b)], .row e1 l] => match Nat.beq e 25 && Nat.beq e1 47, rdCod M6 l with
    | true, some m => .ret (.val (.tuple #[])) [.row 25 [.val (.bool (g b m p q).2)], .row 47 (g b m p q).1.av]
    | _, _ => .no
  | _, _ => .no
theorem okOnt {o : Ops} (hG : GamOk Try.prog (gamN o)) : SumOk Try.prog 109 (ontS (ontoV o)) := by
  refine sumOk_of (E := { gam := gamN o }) hG fun args cs r cs' h => ?_
  unfold ontS at h
  split at h
  · split at h
    · rename_i p q e b e1 l _ _ m he hv
      simp only [STr.sel, Option.some.injEq, Prod.mk.injEq] at h
      obtain ⟨rfl, rfl⟩ := h
      simp only [Bool.and_eq_true] at he
      refine ⟨by simp, 20, ?_⟩
      rw [Nat.eq_of_beq_eq_true he.1, Nat.eq_of_beq_eq_true he.2, rdM6 hv, ← at_av6]
      refine (onto59 o b m.at p q).trans ?_
      rw [of_av6]
      rfl
    · simp [STr.sel] at h
  · simp [STr.sel] at h
def halvesV (r : R6) : Two V3 V3 := ⟨⟨r.a, r.b, r.c⟩, ⟨r.d, r.e, r.f⟩⟩
def joinV (a b : V3) : R6 := ⟨a.x, a.y, a.z, b.x, b.y, b.z⟩
theorem halves53 (r : R6) : fnSum Try.prog { gam := [] } [] 20 104 [.val (Cod.enc r)] [] = some (.val (Cod.enc (halvesV r)), []) := by kernel_rfl
theorem join55 (a b : V3) : fnSum Try.prog { gam := [] } [] 20 106 [.val (Cod.enc a), .val (Cod.enc b)] [] = some (.val (Cod.enc (joinV a b)), []) := by kernel_rfl
theorem okHalves : SumOk Try.prog 104 (S0 fun (p : R6 × Unit) => halvesV p.1) := S0_ok (E := { gam := [] }) GamOk.nil 20 fun a => halves53 a.1
theorem okJoin : SumOk Try.prog 106 (S0 fun (p : V3 × V3 × Unit) => joinV p.1 p.2.1) := S0_ok (E := { gam := [] }) GamOk.nil 20 fun a => join55 a.1 a.2.1
abbrev QFun := Bool → V4 × V4 × Unit → V4 × Bool
abbrev RFun := Bool → V3 × Unit → V4 × Bool
abbrev TFun := Bool → V3 × V4 × Unit → V4 × Bool
abbrev UFun := Bool → V4 × Unit → V4 × Bool
def turnedO (mu : QFun) (fr : RFun) (b : Bool) (p : V3 × V4 × Unit) : V4 × Bool :=
  let r := fr b (p.1, ())
  mu r.2 (r.1, p.2.1, ())
theorem turned54 (mu : QFun) (fr : RFun) (b : Bool) (p : V3) (q : V4) : fnSum Try.prog { gam := [(41, S 25 mu), (55, S 25 fr)] } [] 20 105 [.ptr 0 0, .val (Cod.enc p), .val (Cod.enc q)] (row 25 b) =
    some (.val (Cod.enc (turnedO mu fr b (p, q, ())).1), row 25 (turnedO mu fr b (p, q, ())).2) := by kernel_rfl
def Gs.zero : Gs := ⟨V4.zero, V3.zero, M6.zero⟩
def settle0 (va : Bool → V3 × V3 × Unit → V3 × Bool) (un : UFun) (tu : TFun) (b : Bool) (q : V4) (bias : V3) (by_ : R6) (p : M6) : Gs × Bool :=
  let t := tu b ((halvesV by_).a, q, ())
  let u := un t.2 (t.1, ())
  let c := va u.2 (bias, (halvesV by_).b, ())
  (⟨u.1, c.1, p⟩, c.2)
def settleO (va : Bool → V3 × V3 × Unit → V3 × Bool) (un : UFun) (tu : TFun) (b : Bool) (p : V4 × V3 × R6 × M6 × Unit) : Two Gs Bool × Bool :=
  let r := settle0 va un tu b p.1 p.2.1 p.2.2.1 p.2.2.2.1
  (bif r.2 then ⟨Gs.zero, false⟩ else ⟨r.1, true⟩, r.2)
theorem settle66 (va : Bool → V3 × V3 × Unit → V3 × Bool) (un : UFun) (tu : TFun) (b : Bool) (q : V4) (bias : V3) (by_ : R6) (p : M6) :
    fnSum Try.prog { gam := [(90, S 25 va), (38, S 25 un), (105, S 25 tu), (104, S0 fun (p : R6 × Unit) => halvesV p.1)] } [] 20 110 [.ptr 0 0, .val (Cod.enc q), .val (Cod.enc bias), .val (Cod.enc by_), .val (Cod.enc p)] (row 25 b) =
      bif (settle0 va un tu b q bias by_ p).2 then some (.val (Cod.enc (Two.mk Gs.zero false)), row 25 (settle0 va un tu b q bias by_ p).2) else some (.val (Cod.enc (Two.mk (settle0 va un tu b q bias by_ p).1 true)), row 25 (settle0 va un tu b q bias by_ p).2) := by kernel_rfl
end Go.Ab
/- The document's filter: mean, attitude, pair, first, last. -/
namespace Go.Ab
open Go Go.Proofs
/-- The document's mean: of thirteen numbers, the first one twice, from nothing on. -/
def meanR (o : Ops) (b : Bool) (v : Nat → Int) : Int × Bool :=
  let s0 := o.add b 0 (v 0)
  let s := addN o v 1 12 (o.add s0.2 s0.1 (v 0))
  o.part s.2 s.1 1 14
def ix6 (i : Int) : Bool := match i with
  | .ofNat n => Nat.ble n 5
  | _ => false
theorem ix6_cases {i : Int} (h : ix6 i = true) : i = 0 ∨ i = 1 ∨ i = 2 ∨ i = 3 ∨ i = 4 ∨ i = 5 := by
  unfold ix6 at h
  split at h
  · rename_i n
    have := Nat.le_of_ble_eq_true h
    have e : Int.ofNat n = (n : Int) := rfl
    rw [e]
    omega
  · cases h
def col (x : X13) (i : Int) : Nat → Int := fun k => x.at k i.toNat
abbrev MFun := Bool → X13 × Int × Unit → Int × Bool
def mnV (o : Ops) : MFun := fun b p => meanR o b (col p.1 p.2.1)
section
variable (o : Ops) (b : Bool) (x : X13)
theorem mean73_0 : fnSum Try.prog { gam := gamN o } [] 20 118 [.ptr 0 0, .val (Cod.enc x), .val (.int .i64 0)] (row 27 b) = some (.val (Cod.enc (mnV o b (x, 0, ())).1), row 27 (mnV o b (x, 0, ())).2) := by kernel_rfl
theorem mean73_1 : fnSum Try.prog { gam := gamN o } [] 20 118 [.ptr 0 0, .val (Cod.enc x), .val (.int .i64 1)] (row 27 b) = some (.val (Cod.enc (mnV o b (x, 1, ())).1), row 27 (mnV o b (x, 1, ())).2) := by kernel_rfl
theorem mean73_2 : fnSum Try.prog { gam := gamN o } [] 20 118 [.ptr 0 0, .val (Cod.enc x), .val (.int .i64 2)] (row 27 b) = some (.val (Cod.enc (mnV o b (x, 2, ())).1), row 27 (mnV o b (x, 2, ())).2) := by kernel_rfl
theorem mean73_3 : fnSum Try.prog { gam := gamN o } [] 20 118 [.ptr 0 0, .val (Cod.enc x), .val (.int .i64 3)] (row 27 b) = some (.val (Cod.enc (mnV o b (x, 3, ())).1), row 27 (mnV o b (x, 3, ())).2) := by kernel_rfl
theorem mean73_4 : fnSum Try.prog { gam := gamN o } [] 20 118 [.ptr 0 0, .val (Cod.enc x), .val (.int .i64 4)] (row 27 b) = some (.val (Cod.enc (mnV o b (x, 4, ())).1), row 27 (mnV o b (x, 4, ())).2) := by kernel_rfl
theorem mean73_5 : fnSum Try.prog { gam := gamN o } [] 20 118 [.ptr 0 0, .val (Cod.enc x), .val (.int .i64 5)] (row 27 b) = some (.val (Cod.enc (mnV o b (x, 5, ())).1), row 27 (mnV o b (x, 5, ())).2) := by kernel_rfl
end
def preM (p : X13 × Int × Unit) : Bool := ix6 p.2.1
theorem okMean {o : Ops} (hG : GamOk Try.prog (gamN o)) : SumOk Try.prog 118 (Sc 27 preM (mnV o)) :=
  Sc_ok (E := { gam := gamN o }) hG 20 fun b p hp => by
    obtain ⟨x, i, u⟩ := p
    rcases ix6_cases hp with h | h | h | h | h | h
    · subst h; exact mean73_0 o b x
    · subst h; exact mean73_1 o b x
    · subst h; exact mean73_2 o b x
    · subst h; exact mean73_3 o b x
    · subst h; exact mean73_4 o b x
    · subst h; exact mean73_5 o b x
theorem first84 (r : R6) : fnSum Try.prog { gam := [] } [] 20 121 [.val (Cod.enc r)] [] = some (.val (Cod.enc (halvesV r).a), []) := by kernel_rfl
theorem last86 (r : R6) : fnSum Try.prog { gam := [] } [] 20 111 [.val (Cod.enc r)] [] = some (.val (Cod.enc (halvesV r).b), []) := by kernel_rfl
theorem okFirst : SumOk Try.prog 121 (S0 fun (p : R6 × Unit) => (halvesV p.1).a) := S0_ok (E := { gam := [] }) GamOk.nil 20 fun a => first84 a.1
theorem okLast : SumOk Try.prog 111 (S0 fun (p : R6 × Unit) => (halvesV p.1).b) := S0_ok (E := { gam := [] }) GamOk.nil 20 fun a => last86 a.1
abbrev AFun := Bool → Gs × R6 × Unit → V4 × Bool
def attO (mu : QFun) (fr : RFun) : AFun := fun b p =>
  let r := fr b ((halvesV p.2.1).a, ())
  mu r.2 (r.1, p.1.q, ())
theorem att70 (mu : QFun) (fr : RFun) (b : Bool) (g : Gs) (r : R6) : fnSum Try.prog { gam := [(112, S 27 mu), (113, S 27 fr), (121, S0 fun (p : R6 × Unit) => (halvesV p.1).a)] } [] 20 114 [.ptr 0 0, .val (Cod.enc g), .val (Cod.enc r)] (row 27 b) =
    some (.val (Cod.enc (attO mu fr b (g, r, ())).1), row 27 (attO mu fr b (g, r, ())).2) := by kernel_rfl
end Go.Ab
/- filter.Move, by pieces. -/
namespace Go.Ab
open Go Go.Proofs
def X13.row (x : X13) : Nat → R6
  | 0 => x.r0
  | 1 => x.r1
  | 2 => x.r2
  | 3 => x.r3
  | 4 => x.r4
  | 5 => x.r5
  | 6 => x.r6
  | 7 => x.r7
  | 8 => x.r8
  | 9 => x.r9
  | 10 => x.r10
  | 11 => x.r11
  | _ => x.r12
def v4at (q : V4) : Nat → Int
  | 0 => q.w
  | 1 => q.x
  | 2 => q.y
  | _ => q.z
def v4of (v : Nat → Int) : V4 := ⟨v 0, v 1, v 2, v 3⟩
def setT (T : Mx) (k : Nat) (q : V4) : Mx := fun a c => bif Nat.beq a k then v4at q c else T a c
def setX (X : Mx) (k : Nat) (r : R6) : Mx := fun a c => bif Nat.beq a k then r.at c else X a c
def cells52 (T : Mx) : List AV := (nums 0 52).map fun j => .val (.int .i64 (T (j / 4) (j % 4)))
def V3.av (v : V3) : List AV := [.val (.int .i64 v.x), .val (.int .i64 v.y), .val (.int .i64 v.z)]
def V4.av (v : V4) : List AV := [.val (.int .i64 v.w), .val (.int .i64 v.x), .val (.int .i64 v.y), .val (.int .i64 v.z)]
def R6.av (r : R6) : List AV := r.cells.map .val
def Gs.av (g : Gs) : List AV := g.q.av ++ (g.bias.av ++ g.p.av)
structure FOps where
  o : Ops
  vs : Bool → V3 × V3 × Unit → V3 × Bool
  tu : TFun
  un : UFun
  mu : QFun
  tr : Bool → V4 × Unit → V3 × Bool
  bk : V4 × Unit → V4
  pt : Bool → Gs × Unit → X13 × Bool
  cen : CFun
  pro : PFun
  ont : OFun
  st : Bool → V4 × V3 × R6 × M6 × Unit → Two Gs Bool × Bool
def gamMv (F : FOps) : Gam := [(91, S 25 F.vs), (105, S 25 F.tu), (38, S 25 F.un), (41, S 25 F.mu), (56, S 25 F.tr), (42, S0 F.bk), (47, S 25 F.pt), (107, ctrS F.cen), (108, prdS F.pro), (109, ontS F.ont), (110, S 25 F.st), (104, S0 fun (p : R6 × Unit) => halvesV p.1), (106, S0 fun (p : V3 × V3 × Unit) => joinV p.1 p.2.1), (59, S 25 (op3 F.o.part)), (71, S 25 failV)]
abbrev eM (F : FOps) : Env := { gam := gamMv F }
def mv1 (F : FOps) (q : V4) (rate : V3) (ms : Int) (r : R6) (b : Bool) : V4 × Bool :=
  let w := F.vs b (rate, (halvesV r).b, ())
  let w0 := F.o.part w.2 w.1.x ms 1000
  let w1 := F.o.part w0.2 w.1.y ms 1000
  let w2 := F.o.part w1.2 w.1.z ms 1000
  let p := F.tu w2.2 ((halvesV r).a, q, ())
  F.tu p.2 (⟨w0.1, w1.1, w2.1⟩, p.1, ())
def mv2 (F : FOps) (mid t : V4) (r : R6) (b : Bool) : R6 × Bool :=
  let m := F.mu b (t, F.bk (mid, ()), ())
  let e := F.tr m.2 (m.1, ())
  (joinV e.1 (halvesV r).b, e.2)
noncomputable def vC : Code := Try.f51.body.getD .skip
noncomputable def v0 : Code := seqL vC
noncomputable def vT1 : Code := seqR vC
noncomputable def v1 : Code := seqL vT1
noncomputable def vT3 : Code := seqR vT1
noncomputable def v3 : Code := seqL vT3
noncomputable def v4 : Code := seqL (seqR vT3)
noncomputable def v5 : Code := seqL (seqR (seqR vT3))
noncomputable def vT6 : Code := seqR (seqR (seqR vT3))
noncomputable def v6 : Code := seqL (seqL vT6)
noncomputable def vL : Code := inB (inB (seqR (seqL vT6)))
noncomputable def vT18 : Code := seqR vT6
noncomputable def v18 : Code := seqL vT18
noncomputable def v19 : Code := seqL (seqL (seqR vT18))
noncomputable def vM : Code := inB (inB (seqR (seqL (seqR vT18))))
noncomputable def vT25 : Code := seqR (seqR vT18)
noncomputable def v25 : Code := seqL vT25
noncomputable def v26 : Code := seqL (seqR vT25)
noncomputable def v27 : Code := seqL (seqR (seqR vT25))
noncomputable def v28 : Code := seqL (seqR (seqR (seqR vT25)))
noncomputable def v29 : Code := seqR (seqR (seqR (seqR vT25)))
theorem vC_is : Try.f51.body = some (.seq v0 (.seq v1 (.seq v3 (.seq v4 (.seq v5 (.seq (.seq v6 (.block 0 (.loop vL))) (.seq v18 (.seq (.seq v19 (.block 4 (.loop vM))) (.seq v25 (.seq v26 (.seq v27 (.seq v28 v29)))))))))))) := by kernel_rfl
theorem vN : Try.f51.ntmps = 130 := by kernel_rfl
abbrev nH : Nat := 4096 + 7 * 2 ^ 180
abbrev nI : Nat := 4096 + 8 * 2 ^ 180
abbrev nJ : Nat := 4096 + 9 * 2 ^ 180
def vH (b : Bool) (g : Gs) (rate : V3) (e : Hp) : Hp := [(0, .row 25 [.val (.bool b)]), (nA, .row 67 g.av), (nB, .row 32 rate.av), (nC, .row 67 Gs.zero.av)] ++ e
def vF (ms : Int) (e : List (Nat × AV)) : List (Nat × AV) := [(0, .ptr 0 0), (3, .val (.int .i64 ms)), (5, .ptr nA 0), (6, .ptr nB 0), (8, .ptr nC 0)] ++ e
abbrev vK (e : List Nat) : List Nat := [0, nA, nB, nC] ++ e
abbrev vTs (e : List Nat) : List Nat := [0, 3, 5, 6, 8] ++ e
def vS0 (ms : Int) (b : Bool) (g : Gs) (rate : V3) : St := gSt 130 (vF ms []) (vH b g rate []) nD
def vS3 (ms : Int) (b : Bool) (g : Gs) (rate : V3) (x : X13) : St := gSt 130 (vF ms [(9, .ptr nD 0)]) (vH b g rate [(nD, .row 111 x.av)]) nE
def vS5 (ms : Int) (b : Bool) (g : Gs) (rate : V3) (x : X13) : St := gSt 130 (vF ms [(9, .ptr nD 0), (10, .ptr nE 0)]) (vH b g rate [(nD, .row 111 x.av), (nE, .row 112 (cells52 mx0))]) nF
def vSL (ms : Int) (k : Int) (g : Gs) (rate : V3) (x : X13) (T : Mx) (b : Bool) : St := gSt 130 (vF ms [(9, .ptr nD 0), (10, .ptr nE 0), (42, .val (Cod.enc x)), (43, .val (.int .i64 k))]) (vH b g rate [(nD, .row 111 x.av), (nE, .row 112 (cells52 T))]) nF
def vSX (ms : Int) (g : Gs) (rate : V3) (x : X13) (T : Mx) (b : Bool) : St := gSt 130 (vF ms [(9, .ptr nD 0), (10, .ptr nE 0)]) (vH b g rate [(nD, .row 111 x.av), (nE, .row 112 (cells52 T))]) nF
def vG (ms : Int) (e : List (Nat × AV)) : List (Nat × AV) := [(0, .ptr 0 0), (3, .val (.int .i64 ms)), (5, .ptr nA 0), (8, .ptr nC 0), (9, .ptr nD 0), (17, .ptr nF 0)] ++ e
def vI (b : Bool) (g : Gs) (mid : V4) (xs : List AV) (e : Hp) : Hp := [(0, .row 25 [.val (.bool b)]), (nA, .row 67 g.av), (nC, .row 67 Gs.zero.av), (nD, .row 111 xs), (nF, .row 54 mid.av)] ++ e
abbrev vK2 (e : List Nat) : List Nat := [0, nA, nC, nD, nF] ++ e
abbrev vT2 (e : List Nat) : List Nat := [0, 3, 5, 8, 9, 17] ++ e
def vS18 (ms : Int) (g : Gs) (mid : V4) (x : X13) (T : Mx) (b : Bool) : St := gSt 130 (vG ms [(10, .ptr nE 0)]) (vI b g mid x.av [(nE, .row 112 (cells52 T))]) nG
def vSM (ms : Int) (k : Int) (g : Gs) (mid : V4) (x : X13) (T X : Mx) (b : Bool) : St := gSt 130 (vG ms [(10, .ptr nE 0), (83, .val (Cod.enc x)), (84, .val (.int .i64 k))]) (vI b g mid (cells13 X) [(nE, .row 112 (cells52 T))]) nG
def vSY (ms : Int) (g : Gs) (mid : V4) (X : Mx) (b : Bool) : St := gSt 130 (vG ms []) (vI b g mid (cells13 X) []) nG
def vS25 (ms : Int) (g : Gs) (mid : V4) (x : X13) (m : R6) (b : Bool) : St := gSt 130 (vG ms [(22, .ptr nG 0)]) (vI b g mid x.av [(nG, .row 45 m.av)]) nH
def vS26 (ms : Int) (g : Gs) (mid : V4) (x : X13) (m : R6) (p : M6) (b : Bool) : St := gSt 130 (vG ms [(22, .ptr nG 0), (23, .ptr nH 0)]) (vI b g mid x.av [(nG, .row 45 m.av), (nH, .row 47 p.av)]) nI
def vS28 (g : Gs) (b : Bool) : St := gSt 130 [(8, .ptr nC 0), (24, .ptr nI 0)] [(0, .row 25 [.val (.bool b)]), (nC, .row 67 Gs.zero.av), (nI, .row 67 g.av)] nJ
def vS29 (g : Gs) (b : Bool) : St := gSt 130 [(8, .ptr nC 0)] [(0, .row 25 [.val (.bool b)]), (nC, .row 67 g.av)] nJ
section
variable (F : FOps) (ms k : Int) (b : Bool) (g g' : Gs) (rate : V3) (x : X13) (T X : Mx) (mid : V4) (m : R6) (p : M6)
theorem vq0 : gRun Try.prog (eM F) 130 v0 (startS 130 [.ptr 0 0, .val (Cod.enc g), .val (Cod.enc rate), .val (.int .i64 ms)] (row 25 b)) (vK []) (vTs []) = some (.normal, vS0 ms b g rate) := by kernel_rfl
theorem vq1 : gRun Try.prog (eM F) 130 v1 (vS0 ms b g rate) (vK []) (vTs []) = bif decide (ms < 10) then some (.normal, vS0 ms true g rate) else bif bif false then true else decide (ms > 10000) then some (.normal, vS0 ms true g rate) else some (.normal, { vS0 ms b g rate with lo := nD }) := by kernel_rfl
theorem vq3 : gRun Try.prog (eM F) 130 v3 (vS0 ms b g rate) (vK [nD]) (vTs [9]) = some (.normal, vS3 ms (F.pt b (g, ())).2 g rate (F.pt b (g, ())).1) := by kernel_rfl
theorem vq4 : gRun Try.prog (eM F) 130 v4 (vS3 ms b g rate x) (vK [nD]) (vTs [9]) = some (.normal, vS3 ms (F.vs b (rate, g.bias, ())).2 g (F.vs b (rate, g.bias, ())).1 x) := by kernel_rfl
theorem vq5 : gRun Try.prog (eM F) 130 v5 (vS3 ms b g rate x) (vK [nD, nE]) (vTs [9, 10]) = some (.normal, vS5 ms b g rate x) := by kernel_rfl
theorem vq6 : gRun Try.prog (eM F) 130 v6 (vS5 ms b g rate x) (vK [nD, nE]) (vTs [9, 10, 42, 43]) = some (.normal, vSL ms 0 g rate x mx0 b) := by kernel_rfl
theorem vqL_0 : gCut Try.prog (eM F) 130 vL (vSL ms 0 g rate x T b) nF (vK [nD, nE]) (vTs [9, 10, 42, 43]) = some (.normal, vSL ms 1 g rate x (setT T 0 (mv1 F g.q rate ms (x.row 0) b).1) (mv1 F g.q rate ms (x.row 0) b).2) := by kernel_rfl
theorem vqL_1 : gCut Try.prog (eM F) 130 vL (vSL ms 1 g rate x T b) nF (vK [nD, nE]) (vTs [9, 10, 42, 43]) = some (.normal, vSL ms 2 g rate x (setT T 1 (mv1 F g.q rate ms (x.row 1) b).1) (mv1 F g.q rate ms (x.row 1) b).2) := by kernel_rfl
theorem vqL_2 : gCut Try.prog (eM F) 130 vL (vSL ms 2 g rate x T b) nF (vK [nD, nE]) (vTs [9, 10, 42, 43]) = some (.normal, vSL ms 3 g rate x (setT T 2 (mv1 F g.q rate ms (x.row 2) b).1) (mv1 F g.q rate ms (x.row 2) b).2) := by kernel_rfl
theorem vqL_3 : gCut Try.prog (eM F) 130 vL (vSL ms 3 g rate x T b) nF (vK [nD, nE]) (vTs [9, 10, 42, 43]) = some (.normal, vSL ms 4 g rate x (setT T 3 (mv1 F g.q rate ms (x.row 3) b).1) (mv1 F g.q rate ms (x.row 3) b).2) := by kernel_rfl
theorem vqL_4 : gCut Try.prog (eM F) 130 vL (vSL ms 4 g rate x T b) nF (vK [nD, nE]) (vTs [9, 10, 42, 43]) = some (.normal, vSL ms 5 g rate x (setT T 4 (mv1 F g.q rate ms (x.row 4) b).1) (mv1 F g.q rate ms (x.row 4) b).2) := by kernel_rfl
theorem vqL_5 : gCut Try.prog (eM F) 130 vL (vSL ms 5 g rate x T b) nF (vK [nD, nE]) (vTs [9, 10, 42, 43]) = some (.normal, vSL ms 6 g rate x (setT T 5 (mv1 F g.q rate ms (x.row 5) b).1) (mv1 F g.q rate ms (x.row 5) b).2) := by kernel_rfl
theorem vqL_6 : gCut Try.prog (eM F) 130 vL (vSL ms 6 g rate x T b) nF (vK [nD, nE]) (vTs [9, 10, 42, 43]) = some (.normal, vSL ms 7 g rate x (setT T 6 (mv1 F g.q rate ms (x.row 6) b).1) (mv1 F g.q rate ms (x.row 6) b).2) := by kernel_rfl
theorem vqL_7 : gCut Try.prog (eM F) 130 vL (vSL ms 7 g rate x T b) nF (vK [nD, nE]) (vTs [9, 10, 42, 43]) = some (.normal, vSL ms 8 g rate x (setT T 7 (mv1 F g.q rate ms (x.row 7) b).1) (mv1 F g.q rate ms (x.row 7) b).2) := by kernel_rfl
theorem vqL_8 : gCut Try.prog (eM F) 130 vL (vSL ms 8 g rate x T b) nF (vK [nD, nE]) (vTs [9, 10, 42, 43]) = some (.normal, vSL ms 9 g rate x (setT T 8 (mv1 F g.q rate ms (x.row 8) b).1) (mv1 F g.q rate ms (x.row 8) b).2) := by kernel_rfl
theorem vqL_9 : gCut Try.prog (eM F) 130 vL (vSL ms 9 g rate x T b) nF (vK [nD, nE]) (vTs [9, 10, 42, 43]) = some (.normal, vSL ms 10 g rate x (setT T 9 (mv1 F g.q rate ms (x.row 9) b).1) (mv1 F g.q rate ms (x.row 9) b).2) := by kernel_rfl
theorem vqL_10 : gCut Try.prog (eM F) 130 vL (vSL ms 10 g rate x T b) nF (vK [nD, nE]) (vTs [9, 10, 42, 43]) = some (.normal, vSL ms 11 g rate x (setT T 10 (mv1 F g.q rate ms (x.row 10) b).1) (mv1 F g.q rate ms (x.row 10) b).2) := by kernel_rfl
theorem vqL_11 : gCut Try.prog (eM F) 130 vL (vSL ms 11 g rate x T b) nF (vK [nD, nE]) (vTs [9, 10, 42, 43]) = some (.normal, vSL ms 12 g rate x (setT T 11 (mv1 F g.q rate ms (x.row 11) b).1) (mv1 F g.q rate ms (x.row 11) b).2) := by kernel_rfl
theorem vqL_12 : gCut Try.prog (eM F) 130 vL (vSL ms 12 g rate x T b) nF (vK [nD, nE]) (vTs [9, 10, 42, 43]) = some (.normal, vSL ms 13 g rate x (setT T 12 (mv1 F g.q rate ms (x.row 12) b).1) (mv1 F g.q rate ms (x.row 12) b).2) := by kernel_rfl
theorem vqL_13 : gCut Try.prog (eM F) 130 vL (vSL ms 13 g rate x T b) nF (vK [nD, nE]) (vTs [9, 10]) = some (.exit 0, vSX ms g rate x T b) := by kernel_rfl
theorem vq18 : gRun Try.prog (eM F) 130 v18 (vSX ms g rate x T b) (vK2 [nE]) (vT2 [10]) = some (.normal, vS18 ms g (F.un b (v4of (T 0), ())).1 x T (F.un b (v4of (T 0), ())).2) := by kernel_rfl
theorem vq19 : gRun Try.prog (eM F) 130 v19 (vS18 ms g mid x T b) (vK2 [nE]) (vT2 [10, 83, 84]) = some (.normal, vSM ms 0 g mid x T x.at b) := by kernel_rfl
theorem vqM_0 : gCut Try.prog (eM F) 130 vM (vSM ms 0 g mid x T X b) nG (vK2 [nE]) (vT2 [10, 83, 84]) = some (.normal, vSM ms 1 g mid x T (setX X 0 (mv2 F mid (v4of (T 0)) (x.row 0) b).1) (mv2 F mid (v4of (T 0)) (x.row 0) b).2) := by kernel_rfl
theorem vqM_1 : gCut Try.prog (eM F) 130 vM (vSM ms 1 g mid x T X b) nG (vK2 [nE]) (vT2 [10, 83, 84]) = some (.normal, vSM ms 2 g mid x T (setX X 1 (mv2 F mid (v4of (T 1)) (x.row 1) b).1) (mv2 F mid (v4of (T 1)) (x.row 1) b).2) := by kernel_rfl
theorem vqM_2 : gCut Try.prog (eM F) 130 vM (vSM ms 2 g mid x T X b) nG (vK2 [nE]) (vT2 [10, 83, 84]) = some (.normal, vSM ms 3 g mid x T (setX X 2 (mv2 F mid (v4of (T 2)) (x.row 2) b).1) (mv2 F mid (v4of (T 2)) (x.row 2) b).2) := by kernel_rfl
theorem vqM_3 : gCut Try.prog (eM F) 130 vM (vSM ms 3 g mid x T X b) nG (vK2 [nE]) (vT2 [10, 83, 84]) = some (.normal, vSM ms 4 g mid x T (setX X 3 (mv2 F mid (v4of (T 3)) (x.row 3) b).1) (mv2 F mid (v4of (T 3)) (x.row 3) b).2) := by kernel_rfl
theorem vqM_4 : gCut Try.prog (eM F) 130 vM (vSM ms 4 g mid x T X b) nG (vK2 [nE]) (vT2 [10, 83, 84]) = some (.normal, vSM ms 5 g mid x T (setX X 4 (mv2 F mid (v4of (T 4)) (x.row 4) b).1) (mv2 F mid (v4of (T 4)) (x.row 4) b).2) := by kernel_rfl
theorem vqM_5 : gCut Try.prog (eM F) 130 vM (vSM ms 5 g mid x T X b) nG (vK2 [nE]) (vT2 [10, 83, 84]) = some (.normal, vSM ms 6 g mid x T (setX X 5 (mv2 F mid (v4of (T 5)) (x.row 5) b).1) (mv2 F mid (v4of (T 5)) (x.row 5) b).2) := by kernel_rfl
theorem vqM_6 : gCut Try.prog (eM F) 130 vM (vSM ms 6 g mid x T X b) nG (vK2 [nE]) (vT2 [10, 83, 84]) = some (.normal, vSM ms 7 g mid x T (setX X 6 (mv2 F mid (v4of (T 6)) (x.row 6) b).1) (mv2 F mid (v4of (T 6)) (x.row 6) b).2) := by kernel_rfl
theorem vqM_7 : gCut Try.prog (eM F) 130 vM (vSM ms 7 g mid x T X b) nG (vK2 [nE]) (vT2 [10, 83, 84]) = some (.normal, vSM ms 8 g mid x T (setX X 7 (mv2 F mid (v4of (T 7)) (x.row 7) b).1) (mv2 F mid (v4of (T 7)) (x.row 7) b).2) := by kernel_rfl
theorem vqM_8 : gCut Try.prog (eM F) 130 vM (vSM ms 8 g mid x T X b) nG (vK2 [nE]) (vT2 [10, 83, 84]) = some (.normal, vSM ms 9 g mid x T (setX X 8 (mv2 F mid (v4of (T 8)) (x.row 8) b).1) (mv2 F mid (v4of (T 8)) (x.row 8) b).2) := by kernel_rfl
theorem vqM_9 : gCut Try.prog (eM F) 130 vM (vSM ms 9 g mid x T X b) nG (vK2 [nE]) (vT2 [10, 83, 84]) = some (.normal, vSM ms 10 g mid x T (setX X 9 (mv2 F mid (v4of (T 9)) (x.row 9) b).1) (mv2 F mid (v4of (T 9)) (x.row 9) b).2) := by kernel_rfl
theorem vqM_10 : gCut Try.prog (eM F) 130 vM (vSM ms 10 g mid x T X b) nG (vK2 [nE]) (vT2 [10, 83, 84]) = some (.normal, vSM ms 11 g mid x T (setX X 10 (mv2 F mid (v4of (T 10)) (x.row 10) b).1) (mv2 F mid (v4of (T 10)) (x.row 10) b).2) := by kernel_rfl
theorem vqM_11 : gCut Try.prog (eM F) 130 vM (vSM ms 11 g mid x T X b) nG (vK2 [nE]) (vT2 [10, 83, 84]) = some (.normal, vSM ms 12 g mid x T (setX X 11 (mv2 F mid (v4of (T 11)) (x.row 11) b).1) (mv2 F mid (v4of (T 11)) (x.row 11) b).2) := by kernel_rfl
theorem vqM_12 : gCut Try.prog (eM F) 130 vM (vSM ms 12 g mid x T X b) nG (vK2 [nE]) (vT2 [10, 83, 84]) = some (.normal, vSM ms 13 g mid x T (setX X 12 (mv2 F mid (v4of (T 12)) (x.row 12) b).1) (mv2 F mid (v4of (T 12)) (x.row 12) b).2) := by kernel_rfl
theorem vqM_13 : gCut Try.prog (eM F) 130 vM (vSM ms 13 g mid x T X b) nG (vK2 []) (vT2 []) = some (.exit 4, vSY ms g mid X b) := by kernel_rfl
theorem vq25 : gRun Try.prog (eM F) 130 v25 (vSY ms g mid X b) (vK2 [nG]) (vT2 [22]) = some (.normal, vS25 ms g mid (F.cen b (x13of X)).1.x (F.cen b (x13of X)).1.m (F.cen b (x13of X)).2) := by kernel_rfl
theorem vq26 : gRun Try.prog (eM F) 130 v26 (vS25 ms g mid x m b) (vK2 [nG, nH]) (vT2 [22, 23]) = some (.normal, vS26 ms g mid x m (F.pro b x x).1 (F.pro b x x).2) := by kernel_rfl
def mv3 (F : FOps) (ms : Int) (p : M6) (b : Bool) : M6 × Bool :=
  let a := F.o.part b 65536 ms 1000
  let d := F.o.part a.2 1024 ms 1000
  F.ont d.2 p a.1 d.1
theorem vq27 : gRun Try.prog (eM F) 130 v27 (vS26 ms g mid x m p b) (vK2 [nG, nH]) (vT2 [22, 23]) = some (.normal, vS26 ms g mid x m (mv3 F ms p b).1 (mv3 F ms p b).2) := by kernel_rfl
theorem vq28 : gRun Try.prog (eM F) 130 v28 (vS26 ms g mid x m p b) [0, nC, nI] [8, 24] = some (.normal, vS28 (F.st b (mid, g.bias, m, p, ())).1.a (F.st b (mid, g.bias, m, p, ())).2) := by kernel_rfl
theorem vq29 : gRun Try.prog (eM F) 130 v29 (vS28 g b) [0, nC] [8] = some (.ret, vS29 g b) := by kernel_rfl
theorem vR : resA Try.prog (vS29 g b) Try.f51.results.toList = some [.val (Cod.enc g)] := by kernel_rfl
theorem vcL : okClean nF (vSL ms k g rate x T b) = true := by kernel_rfl
theorem vcX : okClean nF (vSX ms g rate x T b) = true := by kernel_rfl
theorem vcM : okClean nG (vSM ms k g mid x T X b) = true := by kernel_rfl
theorem vcY : okClean nG (vSY ms g mid X b) = true := by kernel_rfl
end
section
variable {F : FOps} (hG : GamOk Try.prog (eM F).gam) (ms k : Int) (b : Bool) (g : Gs) (rate : V3) (x : X13) (T X : Mx) (mid : V4)
include hG
omit hG in
theorem vlL : (vSL ms k g rate x T b).lo = nF := rfl
omit hG in
theorem vlM : (vSM ms k g mid x T X b).lo = nG := rfl
def mvF1 (F : FOps) (q : V4) (rate : V3) (ms : Int) (x : X13) (k : Nat) (z : Mx × Bool) : Mx × Bool := (setT z.1 k (mv1 F q rate ms (x.row k) z.2).1, (mv1 F q rate ms (x.row k) z.2).2)
def mvF2 (F : FOps) (mid : V4) (x : X13) (T : Mx) (k : Nat) (z : Mx × Bool) : Mx × Bool := (setX z.1 k (mv2 F mid (v4of (T k)) (x.row k) z.2).1, (mv2 F mid (v4of (T k)) (x.row k) z.2).2)
theorem vuL_0 : RunsTo Try.prog 130 vL (vSL ms 0 g rate x T b) .normal (vSL ms 1 g rate x (mvF1 F g.q rate ms x 0 (T, b)).1 (mvF1 F g.q rate ms x 0 (T, b)).2) := gCut_runs hG (vqL_0 F ms b g rate x T) (vlL ..) (vcL ..) rfl
theorem vuM_0 : RunsTo Try.prog 130 vM (vSM ms 0 g mid x T X b) .normal (vSM ms 1 g mid x T (mvF2 F mid x T 0 (X, b)).1 (mvF2 F mid x T 0 (X, b)).2) := gCut_runs hG (vqM_0 F ms b g x T X mid) (vlM ..) (vcM ..) rfl
theorem vuL_1 : RunsTo Try.prog 130 vL (vSL ms 1 g rate x T b) .normal (vSL ms 2 g rate x (mvF1 F g.q rate ms x 1 (T, b)).1 (mvF1 F g.q rate ms x 1 (T, b)).2) := gCut_runs hG (vqL_1 F ms b g rate x T) (vlL ..) (vcL ..) rfl
theorem vuM_1 : RunsTo Try.prog 130 vM (vSM ms 1 g mid x T X b) .normal (vSM ms 2 g mid x T (mvF2 F mid x T 1 (X, b)).1 (mvF2 F mid x T 1 (X, b)).2) := gCut_runs hG (vqM_1 F ms b g x T X mid) (vlM ..) (vcM ..) rfl
theorem vuL_2 : RunsTo Try.prog 130 vL (vSL ms 2 g rate x T b) .normal (vSL ms 3 g rate x (mvF1 F g.q rate ms x 2 (T, b)).1 (mvF1 F g.q rate ms x 2 (T, b)).2) := gCut_runs hG (vqL_2 F ms b g rate x T) (vlL ..) (vcL ..) rfl
theorem vuM_2 : RunsTo Try.prog 130 vM (vSM ms 2 g mid x T X b) .normal (vSM ms 3 g mid x T (mvF2 F mid x T 2 (X, b)).1 (mvF2 F mid x T 2 (X, b)).2) := gCut_runs hG (vqM_2 F ms b g x T X mid) (vlM ..) (vcM ..) rfl
theorem vuL_3 : RunsTo Try.prog 130 vL (vSL ms 3 g rate x T b) .normal (vSL ms 4 g rate x (mvF1 F g.q rate ms x 3 (T, b)).1 (mvF1 F g.q rate ms x 3 (T, b)).2) := gCut_runs hG (vqL_3 F ms b g rate x T) (vlL ..) (vcL ..) rfl
theorem vuM_3 : RunsTo Try.prog 130 vM (vSM ms 3 g mid x T X b) .normal (vSM ms 4 g mid x T (mvF2 F mid x T 3 (X, b)).1 (mvF2 F mid x T 3 (X, b)).2) := gCut_runs hG (vqM_3 F ms b g x T X mid) (vlM ..) (vcM ..) rfl
theorem vuL_4 : RunsTo Try.prog 130 vL (vSL ms 4 g rate x T b) .normal (vSL ms 5 g rate x (mvF1 F g.q rate ms x 4 (T, b)).1 (mvF1 F g.q rate ms x 4 (T, b)).2) := gCut_runs hG (vqL_4 F ms b g rate x T) (vlL ..) (vcL ..) rfl
theorem vuM_4 : RunsTo Try.prog 130 vM (vSM ms 4 g mid x T X b) .normal (vSM ms 5 g mid x T (mvF2 F mid x T 4 (X, b)).1 (mvF2 F mid x T 4 (X, b)).2) := gCut_runs hG (vqM_4 F ms b g x T X mid) (vlM ..) (vcM ..) rfl
theorem vuL_5 : RunsTo Try.prog 130 vL (vSL ms 5 g rate x T b) .normal (vSL ms 6 g rate x (mvF1 F g.q rate ms x 5 (T, b)).1 (mvF1 F g.q rate ms x 5 (T, b)).2) := gCut_runs hG (vqL_5 F ms b g rate x T) (vlL ..) (vcL ..) rfl
theorem vuM_5 : RunsTo Try.prog 130 vM (vSM ms 5 g mid x T X b) .normal (vSM ms 6 g mid x T (mvF2 F mid x T 5 (X, b)).1 (mvF2 F mid x T 5 (X, b)).2) := gCut_runs hG (vqM_5 F ms b g x T X mid) (vlM ..) (vcM ..) rfl
theorem vuL_6 : RunsTo Try.prog 130 vL (vSL ms 6 g rate x T b) .normal (vSL ms 7 g rate x (mvF1 F g.q rate ms x 6 (T, b)).1 (mvF1 F g.q rate ms x 6 (T, b)).2) := gCut_runs hG (vqL_6 F ms b g rate x T) (vlL ..) (vcL ..) rfl
theorem vuM_6 : RunsTo Try.prog 130 vM (vSM ms 6 g mid x T X b) .normal (vSM ms 7 g mid x T (mvF2 F mid x T 6 (X, b)).1 (mvF2 F mid x T 6 (X, b)).2) := gCut_runs hG (vqM_6 F ms b g x T X mid) (vlM ..) (vcM ..) rfl
theorem vuL_7 : RunsTo Try.prog 130 vL (vSL ms 7 g rate x T b) .normal (vSL ms 8 g rate x (mvF1 F g.q rate ms x 7 (T, b)).1 (mvF1 F g.q rate ms x 7 (T, b)).2) := gCut_runs hG (vqL_7 F ms b g rate x T) (vlL ..) (vcL ..) rfl
theorem vuM_7 : RunsTo Try.prog 130 vM (vSM ms 7 g mid x T X b) .normal (vSM ms 8 g mid x T (mvF2 F mid x T 7 (X, b)).1 (mvF2 F mid x T 7 (X, b)).2) := gCut_runs hG (vqM_7 F ms b g x T X mid) (vlM ..) (vcM ..) rfl
theorem vuL_8 : RunsTo Try.prog 130 vL (vSL ms 8 g rate x T b) .normal (vSL ms 9 g rate x (mvF1 F g.q rate ms x 8 (T, b)).1 (mvF1 F g.q rate ms x 8 (T, b)).2) := gCut_runs hG (vqL_8 F ms b g rate x T) (vlL ..) (vcL ..) rfl
theorem vuM_8 : RunsTo Try.prog 130 vM (vSM ms 8 g mid x T X b) .normal (vSM ms 9 g mid x T (mvF2 F mid x T 8 (X, b)).1 (mvF2 F mid x T 8 (X, b)).2) := gCut_runs hG (vqM_8 F ms b g x T X mid) (vlM ..) (vcM ..) rfl
theorem vuL_9 : RunsTo Try.prog 130 vL (vSL ms 9 g rate x T b) .normal (vSL ms 10 g rate x (mvF1 F g.q rate ms x 9 (T, b)).1 (mvF1 F g.q rate ms x 9 (T, b)).2) := gCut_runs hG (vqL_9 F ms b g rate x T) (vlL ..) (vcL ..) rfl
theorem vuM_9 : RunsTo Try.prog 130 vM (vSM ms 9 g mid x T X b) .normal (vSM ms 10 g mid x T (mvF2 F mid x T 9 (X, b)).1 (mvF2 F mid x T 9 (X, b)).2) := gCut_runs hG (vqM_9 F ms b g x T X mid) (vlM ..) (vcM ..) rfl
theorem vuL_10 : RunsTo Try.prog 130 vL (vSL ms 10 g rate x T b) .normal (vSL ms 11 g rate x (mvF1 F g.q rate ms x 10 (T, b)).1 (mvF1 F g.q rate ms x 10 (T, b)).2) := gCut_runs hG (vqL_10 F ms b g rate x T) (vlL ..) (vcL ..) rfl
theorem vuM_10 : RunsTo Try.prog 130 vM (vSM ms 10 g mid x T X b) .normal (vSM ms 11 g mid x T (mvF2 F mid x T 10 (X, b)).1 (mvF2 F mid x T 10 (X, b)).2) := gCut_runs hG (vqM_10 F ms b g x T X mid) (vlM ..) (vcM ..) rfl
theorem vuL_11 : RunsTo Try.prog 130 vL (vSL ms 11 g rate x T b) .normal (vSL ms 12 g rate x (mvF1 F g.q rate ms x 11 (T, b)).1 (mvF1 F g.q rate ms x 11 (T, b)).2) := gCut_runs hG (vqL_11 F ms b g rate x T) (vlL ..) (vcL ..) rfl
theorem vuM_11 : RunsTo Try.prog 130 vM (vSM ms 11 g mid x T X b) .normal (vSM ms 12 g mid x T (mvF2 F mid x T 11 (X, b)).1 (mvF2 F mid x T 11 (X, b)).2) := gCut_runs hG (vqM_11 F ms b g x T X mid) (vlM ..) (vcM ..) rfl
theorem vuL_12 : RunsTo Try.prog 130 vL (vSL ms 12 g rate x T b) .normal (vSL ms 13 g rate x (mvF1 F g.q rate ms x 12 (T, b)).1 (mvF1 F g.q rate ms x 12 (T, b)).2) := gCut_runs hG (vqL_12 F ms b g rate x T) (vlL ..) (vcL ..) rfl
theorem vuM_12 : RunsTo Try.prog 130 vM (vSM ms 12 g mid x T X b) .normal (vSM ms 13 g mid x T (mvF2 F mid x T 12 (X, b)).1 (mvF2 F mid x T 12 (X, b)).2) := gCut_runs hG (vqM_12 F ms b g x T X mid) (vlM ..) (vcM ..) rfl
theorem vuL_13 : RunsTo Try.prog 130 vL (vSL ms 13 g rate x T b) (.exit 0) (vSX ms g rate x T b) := gCut_runs hG (vqL_13 F ms b g rate x T) (vlL ..) (vcX ..) rfl
theorem vuM_13 : RunsTo Try.prog 130 vM (vSM ms 13 g mid x T X b) (.exit 4) (vSY ms g mid X b) := gCut_runs hG (vqM_13 F ms b g x T X mid) (vlM ..) (vcY ..) rfl
theorem vLoop : RunsTo Try.prog 130 (.block 0 (.loop vL)) (vSL ms 0 g rate x T b) .normal (vSX ms g rate x (iterF (mvF1 F g.q rate ms x) 0 13 (T, b)).1 (iterF (mvF1 F g.q rate ms x) 0 13 (T, b)).2) :=
  RunsTo.rounds (P := Try.prog) (N := 130) (c := vL) (id := 0) 13 (fun k z => vSL ms k g rate x z.1 z.2) (fun z => vSX ms g rate x z.1 z.2) (mvF1 F g.q rate ms x)
    (fun k z hk => match k, hk with
      | 0, _ => vuL_0 hG ms z.2 g rate x z.1
      | 1, _ => vuL_1 hG ms z.2 g rate x z.1
      | 2, _ => vuL_2 hG ms z.2 g rate x z.1
      | 3, _ => vuL_3 hG ms z.2 g rate x z.1
      | 4, _ => vuL_4 hG ms z.2 g rate x z.1
      | 5, _ => vuL_5 hG ms z.2 g rate x z.1
      | 6, _ => vuL_6 hG ms z.2 g rate x z.1
      | 7, _ => vuL_7 hG ms z.2 g rate x z.1
      | 8, _ => vuL_8 hG ms z.2 g rate x z.1
      | 9, _ => vuL_9 hG ms z.2 g rate x z.1
      | 10, _ => vuL_10 hG ms z.2 g rate x z.1
      | 11, _ => vuL_11 hG ms z.2 g rate x z.1
      | 12, _ => vuL_12 hG ms z.2 g rate x z.1
      | n + 13, h => absurd h (by omega))
    (fun z => vuL_13 hG ms z.2 g rate x z.1) (T, b)
theorem vMoop : RunsTo Try.prog 130 (.block 4 (.loop vM)) (vSM ms 0 g mid x T X b) .normal (vSY ms g mid (iterF (mvF2 F mid x T) 0 13 (X, b)).1 (iterF (mvF2 F mid x T) 0 13 (X, b)).2) :=
  RunsTo.rounds (P := Try.prog) (N := 130) (c := vM) (id := 4) 13 (fun k z => vSM ms k g mid x T z.1 z.2) (fun z => vSY ms g mid z.1 z.2) (mvF2 F mid x T)
    (fun k z hk => match k, hk with
      | 0, _ => vuM_0 hG ms z.2 g x T z.1 mid
      | 1, _ => vuM_1 hG ms z.2 g x T z.1 mid
      | 2, _ => vuM_2 hG ms z.2 g x T z.1 mid
      | 3, _ => vuM_3 hG ms z.2 g x T z.1 mid
      | 4, _ => vuM_4 hG ms z.2 g x T z.1 mid
      | 5, _ => vuM_5 hG ms z.2 g x T z.1 mid
      | 6, _ => vuM_6 hG ms z.2 g x T z.1 mid
      | 7, _ => vuM_7 hG ms z.2 g x T z.1 mid
      | 8, _ => vuM_8 hG ms z.2 g x T z.1 mid
      | 9, _ => vuM_9 hG ms z.2 g x T z.1 mid
      | 10, _ => vuM_10 hG ms z.2 g x T z.1 mid
      | 11, _ => vuM_11 hG ms z.2 g x T z.1 mid
      | 12, _ => vuM_12 hG ms z.2 g x T z.1 mid
      | n + 13, h => absurd h (by omega))
    (fun z => vuM_13 hG ms z.2 g x T z.1 mid) (X, b)
end
/-- A guess, moved by a rate for so many milliseconds. -/
def moveB (ms : Int) (b : Bool) : Bool := bif decide (ms < 10) then true else bif decide (ms > 10000) then true else b
def moveO (F : FOps) (b : Bool) (a : Gs × V3 × Int × Unit) : Gs × Bool :=
  let x := F.pt (moveB a.2.2.1 b) (a.1, ())
  let r := F.vs x.2 (a.2.1, a.1.bias, ())
  let z := iterF (mvF1 F a.1.q r.1 a.2.2.1 x.1) 0 13 (mx0, r.2)
  let mid := F.un z.2 (v4of (z.1 0), ())
  let y := iterF (mvF2 F mid.1 x.1 z.1) 0 13 (x.1.at, mid.2)
  let c := F.cen y.2 (x13of y.1)
  let p := F.pro c.2 c.1.x c.1.x
  let n := mv3 F a.2.2.1 p.1 p.2
  let s := F.st n.2 (mid.1, a.1.bias, c.1.m, n.1, ())
  (s.1.a, s.2)
theorem move_runs {F : FOps} (hG : GamOk Try.prog (eM F).gam) (b : Bool) (a : Gs × V3 × Int × Unit) : RunsTo Try.prog 130 vC (startS 130 (.ptr 0 0 :: Args.encs a) (row 25 b)) .ret (vS29 (moveO F b a).1 (moveO F b a).2) := by
  obtain ⟨g, rate, ms, _⟩ := a
  have hc : vC = .seq v0 (.seq v1 (.seq v3 (.seq v4 (.seq v5 (.seq (.seq v6 (.block 0 (.loop vL))) (.seq v18 (.seq (.seq v19 (.block 4 (.loop vM))) (.seq v25 (.seq v26 (.seq v27 (.seq v28 v29))))))))))) := by
    unfold vC
    rw [vC_is]
    rfl
  rw [hc]
  have h1 : RunsTo Try.prog 130 v1 (vS0 ms b g rate) .normal (vS0 ms (moveB ms b) g rate) := by
    refine gRun_runs hG ((vq1 F ms b g rate).trans ?_)
    unfold moveB
    cases decide (ms < 10) <;> cases decide (ms > 10000) <;> rfl
  unfold moveO
  dsimp only
  have h3 := gRun_runs hG (vq3 F ms (moveB ms b) g rate)
  generalize F.pt (moveB ms b) (g, ()) = x at h3 ⊢
  have h4 := gRun_runs hG (vq4 F ms x.2 g rate x.1)
  generalize F.vs x.2 (rate, g.bias, ()) = r at h4 ⊢
  have h5 := gRun_runs hG (vq5 F ms r.2 g r.1 x.1)
  have h6 := (gRun_runs hG (vq6 F ms r.2 g r.1 x.1)).seq (vLoop hG ms r.2 g r.1 x.1 mx0)
  generalize iterF (mvF1 F g.q r.1 ms x.1) 0 13 (mx0, r.2) = z at h6 ⊢
  have h18 := gRun_runs hG (vq18 F ms z.2 g r.1 x.1 z.1)
  generalize F.un z.2 (v4of (z.1 0), ()) = mid at h18 ⊢
  have h19 := (gRun_runs hG (vq19 F ms mid.2 g x.1 z.1 mid.1)).seq (vMoop hG ms mid.2 g x.1 z.1 x.1.at mid.1)
  generalize iterF (mvF2 F mid.1 x.1 z.1) 0 13 (x.1.at, mid.2) = y at h19 ⊢
  have h25 := gRun_runs hG (vq25 F ms y.2 g y.1 mid.1)
  generalize F.cen y.2 (x13of y.1) = c at h25 ⊢
  have h26 := gRun_runs hG (vq26 F ms c.2 g c.1.x mid.1 c.1.m)
  generalize F.pro c.2 c.1.x c.1.x = p at h26 ⊢
  have h27 := gRun_runs hG (vq27 F ms p.2 g c.1.x mid.1 c.1.m p.1)
  generalize mv3 F ms p.1 p.2 = n at h27 ⊢
  have h28 := gRun_runs hG (vq28 F ms n.2 g c.1.x mid.1 c.1.m n.1)
  generalize F.st n.2 (mid.1, g.bias, c.1.m, n.1, ()) = s at h28 ⊢
  have h29 := gRun_runs hG (vq29 F s.2 s.1.a)
  exact (gRun_runs hG (vq0 F ms b g rate)).seq (h1.seq (h3.seq (h4.seq (h5.seq (h6.seq (h18.seq (h19.seq (h25.seq (h26.seq (h27.seq (h28.seq h29)))))))))))
theorem f49_is : Try.prog.funcs[51]? = some Try.f51 := by kernel_rfl
theorem okMove {F : FOps} (hG : GamOk Try.prog (eM F).gam) : SumOk Try.prog 51 (S 25 (moveO F)) := by
  intro args cs r cs' h
  obtain ⟨b, a, rfl, rfl, rfl, rfl⟩ := S_sel h
  obtain ⟨g, rate, ms, u⟩ := a
  refine sum_runs f49_is (c := vC) (by unfold vC; rw [vC_is]; rfl) vN (by show 4 ≤ 130; omega) (by simp [row]) rfl rfl rfl (.inr rfl) (move_runs hG b (g, rate, ms, u)) (vR ..) rfl rfl (fun b' c hb => ?_) rfl rfl
  match b', hb with
  | 0, hb => cases hb; rfl
  | n + 1, hb => simp [row] at hb
end Go.Ab
/- The document's less, by pieces. -/
namespace Go.Ab
open Go Go.Proofs
abbrev eO (o : Ops) : Env := { gam := gamN o }
noncomputable def rlC : Code := Try.f119.body.getD .skip
noncomputable def rlcL : Code := (seqL rlC)
noncomputable def rlcRR : Code := (seqR (seqR rlC))
noncomputable def rlcRLL : Code := (seqL (seqL (seqR rlC)))
noncomputable def rlcRLRBB : Code := (inB (inB (seqR (seqL (seqR rlC)))))
theorem rlC_is : Try.f119.body = some (.seq rlcL (.seq (.seq rlcRLL (.block 0 (.loop rlcRLRBB))) rlcRR)) := by kernel_rfl
theorem rlN : Try.f119.ntmps = 32 := by kernel_rfl
def rlS1 (m : R6) (b : Bool) (X : Mx) : St := gSt 32 [(0, .ptr 0 0), (4, .ptr 4096 0), (5, .ptr (4096 + 2 ^ 180) 0), (6, .ptr (4096 + 2 * 2 ^ 180) 0)] [(0, .row 27 ([.val (.bool b)])), (4096, .row 69 (cells13 X)), ((4096 + 1 * 2 ^ 180), .row 45 m.av), ((4096 + 2 * 2 ^ 180), .row 69 (cells13 mx0))] (4096 + 3 * 2 ^ 180)
def rlS2 (m : R6) (b : Bool) (X : Mx) (k : Int) : St := gSt 32 [(0, .ptr 0 0), (4, .ptr 4096 0), (5, .ptr (4096 + 2 ^ 180) 0), (6, .ptr (4096 + 2 * 2 ^ 180) 0), (7, .val (.int .i64 k))] [(0, .row 27 ([.val (.bool b)])), (4096, .row 69 (cells13 X)), ((4096 + 1 * 2 ^ 180), .row 45 m.av), ((4096 + 2 * 2 ^ 180), .row 69 (cells13 mx0))] (4096 + 3 * 2 ^ 180)
def rlF2 (o : Ops) (m : R6) (k : Nat) (z : Mx × Bool) : Mx × Bool := subRow o m.at k 0 6 (z.1, z.2)
def rlS3 (m : R6) (b : Bool) (X : Mx) : St := gSt 32 [(0, .ptr 0 0), (4, .ptr 4096 0), (5, .ptr (4096 + 2 ^ 180) 0), (6, .ptr (4096 + 2 * 2 ^ 180) 0)] [(0, .row 27 ([.val (.bool b)])), (4096, .row 69 (cells13 X)), ((4096 + 1 * 2 ^ 180), .row 45 m.av), ((4096 + 2 * 2 ^ 180), .row 69 (cells13 mx0))] (4096 + 3 * 2 ^ 180)
def rlS4 (b : Bool) (r : X13) : St := gSt 32 [(6, .ptr (4096 + 2 * 2 ^ 180) 0)] [(0, .row 27 ([.val (.bool b)])), ((4096 + 2 * 2 ^ 180), .row 69 r.av)] (4096 + 3 * 2 ^ 180)
end Go.Ab
