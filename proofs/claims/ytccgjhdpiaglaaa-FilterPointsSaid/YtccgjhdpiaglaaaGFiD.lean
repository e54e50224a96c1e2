/- A part of the proofs: lemmas, no statement of their own; no condition. -/
import Derived.Test.YtccgjhdpiaglaaaFiC
import Derived.Test.YtccgjhdpiaglaaaGRtG
import Derived.Test.YtccgjhdpiaglaaaGAbS
/- The filter's points are the document's. -/
namespace Go.Ab
open Go Go.Proofs
/-- Where all is well: what the points are. -/
def putJ (v : Nat → Nat → Int) : List (Nat × Nat) → Mx → Mx
  | [], X => X
  | (i, k) :: r, X => putJ v r (setM (setM X (1 + k) i (v i k)) (7 + k) i (IntKind.i64.wrap (0 - v i k)))
theorem runJ_bad (c : Int) (l : Mx) : ∀ (J : List (Nat × Nat)) (X : Mx), (runJ opsF c l J (X, true)).2 = true
  | [], X => rfl
  | (i, k) :: r, X => by
    simp only [runJ]
    have : opsF.mul true c (l i k) = (0, true) := rfl
    rw [this]
    exact runJ_bad c l r _
theorem runJ_flow (c : Int) (l : Mx) : ∀ (J : List (Nat × Nat)) (X : Mx), (runJ opsF c l J (X, false)).2 = J.any fun p => (fmul false c (l p.1 p.2)).2
  | [], X => rfl
  | (i, k) :: r, X => by
    simp only [runJ, List.any_cons]
    have e : opsF.mul false c (l i k) = fmul false c (l i k) := rfl
    rw [e]
    rcases h : fmul false c (l i k) with ⟨v, f⟩
    cases f
    · dsimp only
      rw [Bool.false_or]
      exact runJ_flow c l r _
    · dsimp only
      rw [Bool.true_or]
      exact runJ_bad c l r _
theorem runJ_val (c : Int) (l : Mx) : ∀ (J : List (Nat × Nat)) (X : Mx), (runJ opsF c l J (X, false)).2 = false → (runJ opsF c l J (X, false)).1 = putJ (fun i k => (fmul false c (l i k)).1) J X
  | [], X, _ => rfl
  | (i, k) :: r, X, h => by
    simp only [runJ] at h ⊢
    have e : opsF.mul false c (l i k) = fmul false c (l i k) := rfl
    rw [e] at h ⊢
    rcases hv : fmul false c (l i k) with ⟨v, f⟩
    rw [hv] at h
    cases f
    · dsimp only at h ⊢
      rw [runJ_val c l r _ h]
      simp only [putJ, hv]
    · dsimp only at h
      rw [runJ_bad] at h
      cases h
theorem any_jobs (f : Nat × Nat → Bool) : jobsP.any f = jobsR.any f := by
  have h1 : ∀ p ∈ jobsP, p ∈ jobsR := by decide
  have h2 : ∀ p ∈ jobsR, p ∈ jobsP := by decide
  rw [Bool.eq_iff_iff, List.any_eq_true, List.any_eq_true]
  constructor
  · rintro ⟨p, hp, h⟩; exact ⟨p, h1 p hp, h⟩
  · rintro ⟨p, hp, h⟩; exact ⟨p, h2 p hp, h⟩
theorem put_jobs (v : Nat → Nat → Int) : x13of (putJ v jobsP mx0) = x13of (putJ v jobsR mx0) := by kernel_rfl
def restJ (o : Ops) (J : List (Nat × Nat)) (c : Int × Bool) (l : Mx) : X13 × Bool :=
  let r := runJ o c.1 l J (mx0, c.2)
  (bif r.2 then x13z else x13of r.1, r.2)
theorem rest_order (c : Int × Bool) (l : Mx) : restJ opsF jobsR c l = restJ opsF jobsP c l := by
  obtain ⟨c, f⟩ := c
  unfold restJ
  dsimp only
  cases f
  · have h : (runJ opsF c l jobsR (mx0, false)).2 = (runJ opsF c l jobsP (mx0, false)).2 := by rw [runJ_flow, runJ_flow, any_jobs]
    rw [h]
    cases hf : (runJ opsF c l jobsP (mx0, false)).2 with
    | true => rw [cond_true, cond_true]
    | false => rw [runJ_val c l jobsP mx0 hf, runJ_val c l jobsR mx0 (h.trans hf), cond_false, cond_false, put_jobs]
  · rw [runJ_bad, runJ_bad, cond_true, cond_true]
def pointsJ (o : Ops) (rt : Bool → M6 × Int × Unit → M6 × Bool) (J : List (Nat × Nat)) (b : Bool) (g : Gs) : X13 × Bool :=
  restJ o J (o.sqrt (rt b (g.p, 6, ())).2 7696581394432) (rt b (g.p, 6, ())).1.at
theorem pointsT_J (o : Ops) (rt : Bool → M6 × Int × Unit → M6 × Bool) (J : List (Nat × Nat)) (e : TypeId) (b : Bool) (g : Gs) :
    pointsT e (points0 o rt J b g) = some (.val (Cod.enc (pointsJ o rt J b g).1), row e (pointsJ o rt J b g).2) := by
  unfold pointsJ restJ points0 pointsT
  dsimp only
  generalize runJ o _ _ J _ = r
  obtain ⟨X, f⟩ := r
  cases f <;> rfl
theorem points_order (rt : Bool → M6 × Int × Unit → M6 × Bool) (b : Bool) (g : Gs) : pointsJ opsF rt jobsR b g = pointsJ opsF rt jobsP b g := by
  unfold pointsJ
  exact rest_order _ _
theorem ok107 : SumOk Try.prog 47 (S 25 fun b (p : Gs × Unit) => pointsJ opsF (matRootN opsF) jobsP b p.1) :=
  S_ok (E := { gam := (81, S 25 (matRootN opsF)) :: gamN opsF }) (.cons ok64 gamN_ok) 20 fun b a =>
    (points107 opsF (matRootN opsF) b a.1).trans (pointsT_J opsF (matRootN opsF) jobsP 25 b a.1)
theorem ok108 : SumOk Try.prog 48 (S 27 fun b (p : Gs × Unit) => pointsJ opsF (matRootN opsF) jobsP b p.1) :=
  S_ok (E := { gam := (102, S 27 (matRootN opsF)) :: gamN opsF }) (.cons ok65 gamN_ok) 20 fun b a =>
    (points108 opsF (matRootN opsF) b a.1).trans ((pointsT_J opsF (matRootN opsF) jobsR 27 b a.1).trans (by rw [points_order]))
theorem ok105 : SumOk Try.prog 45 (S0 fun (p : V4 × Unit) => start p.1) := S0_ok (E := { gam := [] }) GamOk.nil 20 fun a => start105 a.1
theorem ok106 : SumOk Try.prog 46 (S0 fun (p : V4 × Unit) => start p.1) := S0_ok (E := { gam := [] }) GamOk.nil 20 fun a => start106 a.1
theorem ok109 : SumOk Try.prog 49 (S 25 fun b (p : Gs × Unit) => spread opsF b p.1) := S_ok gamN_ok 20 fun b a => spread109 opsF b a.1
theorem ok110 : SumOk Try.prog 50 (S 27 fun b (p : Gs × Unit) => spread opsF b p.1) := S_ok gamN_ok 20 fun b a => spread110 opsF b a.1
end Go.Ab
/- Attitudes: products, what goes back, turns: trees of both packages. -/
namespace Go.Ab
open Go Go.Proofs
def V4.zero : V4 := ⟨0, 0, 0, 0⟩
/-- The vector of an attitude (its first three numbers), and its last number. -/
def V4.v (q : V4) : V3 := ⟨q.w, q.x, q.y⟩
def V4.s (q : V4) : Int := q.z
def mk4 (a : V3) (s : Int) : V4 := ⟨a.x, a.y, a.z, s⟩
def gamNV (o : Ops) (v : VOps) : Gam := gamN o ++ gamV v
theorem gamNV_ok : GamOk Try.prog (gamNV opsF vopsF) := GamOk.append gamN_ok gamV_ok
def qmulW (o : Ops) (v : VOps) (p q : V4) (r : V3) (f : Bool) : V4 × Bool :=
  let st := o.mul f p.s q.s
  let d := v.dot st.2 (p.v, q.v, ())
  let w := o.sub d.2 st.1 d.1
  (mk4 r w.1, w.2)
def qmulP (o : Ops) (v : VOps) (p q : V4) (b : Bool) : V4 × Bool :=
  let x := v.scale b (p.v, q.s, ())
  let y := v.scale x.2 (q.v, p.s, ())
  let s := v.add y.2 (x.1, y.1, ())
  let z := v.cross s.2 (q.v, p.v, ())
  let r := v.add z.2 (s.1, z.1, ())
  qmulW o v p q r.1 r.2
def qmulR (o : Ops) (v : VOps) (p q : V4) (b : Bool) : V4 × Bool :=
  let x := v.scale b (p.v, q.s, ())
  let y := v.scale x.2 (q.v, p.s, ())
  let z := v.cross y.2 (q.v, p.v, ())
  let s := v.add z.2 (x.1, y.1, ())
  let r := v.add s.2 (s.1, z.1, ())
  qmulW o v p q r.1 r.2
def done4 (r : V4 × Bool) : V4 × Bool := (bif r.2 then V4.zero else r.1, r.2)
theorem mul92 (o : Ops) (v : VOps) (b : Bool) (p q : V4) : fnSum Try.prog { gam := gamNV o v } [] 20 41 [.ptr 0 0, .val (Cod.enc p), .val (Cod.enc q)] (row 25 b) =
    some (.val (Cod.enc (done4 (qmulP o v p q b)).1), row 25 (done4 (qmulP o v p q b)).2) := by
  refine Eq.trans (?_ : _ = bif (qmulP o v p q b).2 then some (.val (Cod.enc V4.zero), row 25 (qmulP o v p q b).2) else some (.val (Cod.enc (qmulP o v p q b).1), row 25 (qmulP o v p q b).2)) pull
  kernel_rfl
theorem mul93 (o : Ops) (v : VOps) (b : Bool) (p q : V4) : fnSum Try.prog { gam := gamNV o v } [] 20 112 [.ptr 0 0, .val (Cod.enc p), .val (Cod.enc q)] (row 27 b) =
    some (.val (Cod.enc (done4 (qmulR o v p q b)).1), row 27 (done4 (qmulR o v p q b)).2) := by
  refine Eq.trans (?_ : _ = bif (qmulR o v p q b).2 then some (.val (Cod.enc V4.zero), row 27 (qmulR o v p q b).2) else some (.val (Cod.enc (qmulR o v p q b).1), row 27 (qmulR o v p q b).2)) pull
  kernel_rfl
def qturn (v : VOps) (b : Bool) (p : V4 × V3 × Unit) : V3 × Bool :=
  let c := v.cross b (p.1.v, p.2.1, ())
  let t := v.scale c.2 (c.1, 2199023255552, ())
  let u := v.scale t.2 (t.1, p.1.s, ())
  let x := v.sub u.2 (p.2.1, u.1, ())
  let y := v.cross x.2 (p.1.v, t.1, ())
  v.add y.2 (x.1, y.1, ())
theorem turn87 (o : Ops) (v : VOps) (b : Bool) (q : V4) (u : V3) : fnSum Try.prog { gam := gamNV o v } [] 20 35 [.ptr 0 0, .val (Cod.enc q), .val (Cod.enc u)] (row 25 b) =
    some (.val (Cod.enc (qturn v b (q, u, ())).1), row 25 (qturn v b (q, u, ())).2) := by kernel_rfl
theorem turn88 (o : Ops) (v : VOps) (b : Bool) (q : V4) (u : V3) : fnSum Try.prog { gam := gamNV o v } [] 20 36 [.ptr 0 0, .val (Cod.enc q), .val (Cod.enc u)] (row 27 b) =
    some (.val (Cod.enc (qturn v b (q, u, ())).1), row 27 (qturn v b (q, u, ())).2) := by kernel_rfl
end Go.Ab
/- Attitudes: products are the document's, in whatever order. -/
namespace Go.Ab
open Go Go.Proofs
/-- A bad flow stills all. -/
structure VStills (v : VOps) : Prop where
  add : ∀ p, v.add true p = (V3.zero, true)
  sub : ∀ p, v.sub true p = (V3.zero, true)
  scale : ∀ p, v.scale true p = (V3.zero, true)
  cross : ∀ p, v.cross true p = (V3.zero, true)
  dot : ∀ p, v.dot true p = (0, true)
  norm : ∀ p, v.norm true p = (0, true)
theorem vopsF_stills : VStills vopsF := ⟨fun _ => rfl, fun _ => rfl, fun _ => rfl, fun _ => rfl, fun _ => rfl, fun _ => rfl⟩
theorem qmul_eq {v : VOps} (hv : VStills v) (o : Ops) (p q : V4) (b : Bool) : qmulP o v p q b = qmulR o v p q b := by
  unfold qmulP qmulR
  dsimp only
  cases b
  · rcases h1 : v.scale false (p.v, q.s, ()) with ⟨x, f1⟩
    cases f1
    · rcases h2 : v.scale false (q.v, p.s, ()) with ⟨y, f2⟩
      cases f2
      · rcases h3 : v.cross false (q.v, p.v, ()) with ⟨z, f3⟩
        rcases h4 : v.add false (x, y, ()) with ⟨s, f4⟩
        cases f3 <;> cases f4 <;> simp [h3, h4, hv.add, hv.cross]
      · simp [hv.add, hv.cross]
    · simp [hv.add, hv.cross, hv.scale]
  · simp [hv.add, hv.cross, hv.scale]
def qmul (b : Bool) (p : V4 × V4 × Unit) : V4 × Bool := done4 (qmulP opsF vopsF p.1 p.2.1 b)
theorem ok92 : SumOk Try.prog 41 (S 25 qmul) := S_ok gamNV_ok 20 fun b a => mul92 opsF vopsF b a.1 a.2.1
theorem ok93 : SumOk Try.prog 112 (S 27 qmul) := S_ok gamNV_ok 20 fun b a => by
  refine (mul93 opsF vopsF b a.1 a.2.1).trans ?_
  rw [← qmul_eq vopsF_stills]
  rfl
theorem ok87 : SumOk Try.prog 35 (S 25 (qturn vopsF)) := S_ok gamNV_ok 20 fun b a => turn87 opsF vopsF b a.1 a.2.1
theorem ok88 : SumOk Try.prog 36 (S 27 (qturn vopsF)) := S_ok gamNV_ok 20 fun b a => turn88 opsF vopsF b a.1 a.2.1
/-- Back. -/
def nb (x : Int) : Int := bif decide (x ≤ 4611686018427387904) then (bif decide (x ≥ -4611686018427387904) then IntKind.i64.wrap (0 - x) else x) else x
def qback (p : V4 × Unit) : V4 := ⟨nb p.1.w, nb p.1.x, nb p.1.y, p.1.z⟩
def nbP {α : Type} (x : Int) (K : Int → α) : α := bif decide (x ≤ 4611686018427387904) then (bif decide (x ≥ -4611686018427387904) then K (IntKind.i64.wrap (0 - x)) else K x) else K x
def nbR {α : Type} (x : Int) (K : Int → α) : α := bif decide (x ≥ -4611686018427387904) then (bif decide (x ≤ 4611686018427387904) then K (IntKind.i64.wrap (0 - x)) else K x) else K x
theorem nbP_eq {α : Type} (x : Int) (K : Int → α) : nbP x K = K (nb x) := by
  unfold nbP nb
  cases decide (x ≤ 4611686018427387904) <;> cases decide (x ≥ -4611686018427387904) <;> rfl
theorem nbR_eq {α : Type} (x : Int) (K : Int → α) : nbR x K = K (nb x) := by
  unfold nbR nb
  cases decide (x ≤ 4611686018427387904) <;> cases decide (x ≥ -4611686018427387904) <;> rfl
theorem back91 (q : V4) : fnSum Try.prog { gam := [] } [] 20 42 [.val (Cod.enc q)] [] =
    nbP q.w fun w => nbP q.x fun x => nbP q.y fun y => some (.val (Cod.enc (V4.mk w x y q.z)), []) := by kernel_rfl
theorem back94 (q : V4) : fnSum Try.prog { gam := [] } [] 20 117 [.val (Cod.enc q)] [] =
    nbR q.w fun w => nbR q.x fun x => nbR q.y fun y => some (.val (Cod.enc (V4.mk w x y q.z)), []) := by kernel_rfl
theorem ok91 : SumOk Try.prog 42 (S0 qback) := S0_ok (E := { gam := [] }) GamOk.nil 20 fun a => by
  refine (back91 a.1).trans ?_
  rw [nbP_eq, nbP_eq, nbP_eq]; rfl
theorem ok94 : SumOk Try.prog 117 (S0 qback) := S0_ok (E := { gam := [] }) GamOk.nil 20 fun a => by
  refine (back94 a.1).trans ?_
  rw [nbR_eq, nbR_eq, nbR_eq]; rfl
end Go.Ab
/- What the numbers' operations answer: bounds. -/
namespace Go.Ab
open Go Go.Proofs
theorem fnorm_ok {a b c n : Int} (h : fnorm false a b c = (n, false)) : num a = true ∧ num b = true ∧ num c = true ∧ n = isq (a * a + b * b + c * c) ∧ 0 ≤ n ∧ n ≤ 4611686018427387904 := by
  unfold fnorm at h
  cases hb : (false || !nums? [a, b, c]) with
  | true => rw [hb] at h; simp at h
  | false =>
    obtain ⟨_, ha, hb', hc⟩ := nums3 hb
    rw [hb, cond_false] at h
    obtain ⟨a5, a6⟩ := num_sq ha
    obtain ⟨b5, b6⟩ := num_sq hb'
    obtain ⟨c5, c6⟩ := num_sq hc
    have e126 : (2 : Int) ^ 126 = 85070591730234615865843651857942052864 := by decide
    obtain ⟨i0, i1, _, _⟩ := isq_spec (W := a * a + b * b + c * c) (by omega) (by omega)
    by_cases hq : isq (a * a + b * b + c * c) > 4611686018427387904
    · rw [decide_eq_true hq] at h; simp at h
    · rw [decide_eq_false hq, cond_false, Prod.mk.injEq] at h
      exact ⟨ha, hb', hc, h.1.symm, by omega, by omega⟩
theorem fnorm_sq {a b c n : Int} (h : fnorm false a b c = (n, false)) : n * n ≤ a * a + b * b + c * c ∧ a * a + b * b + c * c < (n + 1) * (n + 1) ∧ 0 ≤ a * a + b * b + c * c := by
  obtain ⟨ha, hb, hc, rfl, h0, h1⟩ := fnorm_ok h
  obtain ⟨a5, a6⟩ := num_sq ha
  obtain ⟨b5, b6⟩ := num_sq hb
  obtain ⟨c5, c6⟩ := num_sq hc
  have e126 : (2 : Int) ^ 126 = 85070591730234615865843651857942052864 := by decide
  obtain ⟨i0, i1, i2, i3⟩ := isq_spec (W := a * a + b * b + c * c) (by omega) (by omega)
  exact ⟨i2, i3, by omega⟩
theorem le_of_sq_lt {a n : Int} (h0 : 0 ≤ n) (h : a * a < (n + 1) * (n + 1)) : -n ≤ a ∧ a ≤ n := by
  constructor
  · have : -a < n + 1 := sq_lt_imp (by omega) (by rw [Int.neg_mul_neg]; exact h)
    omega
  · have : a < n + 1 := sq_lt_imp (by omega) h
    omega
theorem sq_nonneg (a : Int) : 0 ≤ a * a := by
  rcases Int.le_total 0 a with h | h
  · exact Int.mul_nonneg h h
  · have := Int.mul_nonneg (a := -a) (b := -a) (by omega) (by omega)
    rwa [Int.neg_mul_neg] at this
theorem fnorm_parts {a b c n : Int} (h : fnorm false a b c = (n, false)) : (-n ≤ a ∧ a ≤ n) ∧ (-n ≤ b ∧ b ≤ n) ∧ (-n ≤ c ∧ c ≤ n) := by
  obtain ⟨_, _, _, _, h0, _⟩ := fnorm_ok h
  obtain ⟨_, h2, _⟩ := fnorm_sq h
  have p := sq_nonneg a
  have q := sq_nonneg b
  have r := sq_nonneg c
  exact ⟨le_of_sq_lt h0 (by omega), le_of_sq_lt h0 (by omega), le_of_sq_lt h0 (by omega)⟩
theorem iabs_le {a n : Int} (h : -n ≤ a ∧ a ≤ n) : iabs a ≤ n := by
  unfold iabs
  by_cases h1 : a < 0
  · simp only [h1, decide_true, cond_true]; omega
  · simp only [h1, decide_false, cond_false]; omega
theorem iabs_nonneg (a : Int) : 0 ≤ iabs a := by
  unfold iabs
  by_cases h1 : a < 0
  · simp only [h1, decide_true, cond_true]; omega
  · simp only [h1, decide_false, cond_false]; omega
theorem iabs_of_nonneg {a : Int} (h : 0 ≤ a) : iabs a = a := by
  unfold iabs
  have h1 : ¬ a < 0 := by omega
  simp only [h1, decide_false, cond_false]
/-- A ratio that fits. -/
def ratio3 (a b c : Int) : Int := bif neg3 a b c then 0 - rnd (iabs a * iabs b) (iabs c) else rnd (iabs a * iabs b) (iabs c)
theorem rnd_spec {N z : Int} (hz : 0 < z) : 2 * N - z ≤ 2 * z * rnd N z ∧ 2 * z * rnd N z ≤ 2 * N + z := by
  have r0 := Int.emod_nonneg N (b := z) (by omega)
  have r1 := Int.emod_lt_of_pos N hz
  have e : N = z * (N / z) + N % z := (Int.mul_ediv_add_emod N z).symm
  unfold rnd
  by_cases h : N % z ≥ z - N % z
  · simp only [h, decide_true, cond_true]
    have : 2 * z * (N / z + 1) = 2 * (z * (N / z)) + 2 * z := by rw [Int.mul_add, Int.mul_one, Int.mul_assoc]
    omega
  · simp only [h, decide_false, cond_false]
    have : 2 * z * (N / z) = 2 * (z * (N / z)) := by rw [Int.mul_assoc]
    omega
theorem rnd_nonneg {N z : Int} (hN : 0 ≤ N) (hz : 0 < z) : 0 ≤ rnd N z := by
  have := Int.ediv_nonneg hN (b := z) (by omega)
  unfold rnd
  cases decide (N % z ≥ z - N % z) <;> simp only [cond_true, cond_false] <;> omega
theorem rnd_le {N z m : Int} (hz : 0 < z) (h : N ≤ z * m) : rnd N z ≤ m := by
  have r0 := Int.emod_nonneg N (b := z) (by omega)
  have r1 := Int.emod_lt_of_pos N hz
  have e : N = z * (N / z) + N % z := (Int.mul_ediv_add_emod N z).symm
  have hq : N / z ≤ m := by
    have : z * (N / z) ≤ z * m := by omega
    exact Int.le_of_mul_le_mul_left this hz
  unfold rnd
  by_cases h1 : N % z ≥ z - N % z
  · simp only [h1, decide_true, cond_true]
    rcases Int.lt_or_le (N / z) m with h2 | h2
    · omega
    · have : N / z = m := by omega
      rw [this] at e
      omega
  · simp only [h1, decide_false, cond_false]
    exact hq
theorem fratio_ok {a b c : Int} (hc : iabs c ≠ 0) (h : iabs a * iabs b ≤ iabs c * 4611686018427387904) : fratio false a b c = (ratio3 a b c, false) := by
  have c0 := iabs_nonneg c
  have hz : 0 < iabs c := by omega
  have hq : iabs a * iabs b / iabs c ≤ 4611686018427387904 := by
    have := Int.ediv_le_ediv hz h
    rwa [Int.mul_ediv_cancel_left _ (by omega)] at this
  have hr := rnd_le hz h
  unfold fratio ratio3
  have e1 : (iabs c == 0) = false := by simp; exact hc
  have e2 : decide (iabs a * iabs b / iabs c > 4611686018427387904) = false := by simp; omega
  have e3 : decide (rnd (iabs a * iabs b) (iabs c) > 4611686018427387904) = false := by simp; omega
  rw [e1, e2, e3]
  rfl
theorem fdiv_small {x n : Int} (hx : num x = true) (hn : num n = true) (h0 : 0 < n) (h : -n ≤ x ∧ x ≤ n) : fdiv false x n = (ratio3 x 1099511627776 n, false) := by
  have e : (false || !nums? [x, n]) = false := by simp [nums?, hx, hn]
  unfold fdiv
  rw [e, cond_false]
  have e1 : iabs n = n := iabs_of_nonneg (by omega)
  have e2 : iabs 1099511627776 = 1099511627776 := rfl
  refine fratio_ok (by rw [e1]; omega) ?_
  rw [e1, e2]
  have := iabs_le h
  omega
end Go.Ab
/- Attitudes: units. -/
namespace Go.Ab
open Go Go.Proofs
def neg4 (q : V4) : V4 := ⟨IntKind.i64.wrap (0 - q.w), IntKind.i64.wrap (0 - q.x), IntKind.i64.wrap (0 - q.y), IntKind.i64.wrap (0 - q.z)⟩
def plain (q : V4) : V4 := bif decide (q.z < 0) then neg4 q else q
def qunit0 (o : Ops) (q : V4) (n : Int) (f : Bool) : V4 × Bool :=
  let a := o.div f q.w n
  let b := o.div a.2 q.x n
  let c := o.div b.2 q.y n
  let d := o.div c.2 q.z n
  (⟨a.1, b.1, c.1, d.1⟩, d.2)
def qlen (o : Ops) (b : Bool) (q : V4) : Int × Bool := o.norm (o.norm b q.w q.x q.y).2 (o.norm b q.w q.x q.y).1 q.z 0
def qunitF (o : Ops) (q : V4) (n : Int) (f : Bool) : V4 × Bool := (plain (qunit0 o q n f).1, (qunit0 o q n f).2)
def qunitG (o : Ops) (q : V4) (n : Int) (f : Bool) : V4 × Bool := (bif (qunit0 o q n f).2 then V4.zero else plain (qunit0 o q n f).1, (qunit0 o q n f).2)
def qunit (o : Ops) (b : Bool) (p : V4 × Unit) : V4 × Bool := qunitF o p.1 (qlen o b p.1).1 (bif decide ((qlen o b p.1).1 < 549755813888) then true else (qlen o b p.1).2)
def qunitT (o : Ops) (e : TypeId) (q : V4) (n : Int) (f : Bool) : Option (AV × List Con) :=
  bif decide ((qunit0 o q n f).1.z < 0) then some (.val (Cod.enc (neg4 (qunit0 o q n f).1)), row e (qunit0 o q n f).2) else some (.val (Cod.enc (qunit0 o q n f).1), row e (qunit0 o q n f).2)
theorem qunitT_eq (o : Ops) (e : TypeId) (q : V4) (n : Int) (f : Bool) : qunitT o e q n f = some (.val (Cod.enc (qunitF o q n f).1), row e (qunitF o q n f).2) := pull
def qunitS (o : Ops) (e : TypeId) (q : V4) (n : Int) (f : Bool) : Option (AV × List Con) :=
  bif (qunit0 o q n f).2 then some (.val (Cod.enc V4.zero), row e (qunit0 o q n f).2) else qunitT o e q n f
theorem qunitS_eq (o : Ops) (e : TypeId) (q : V4) (n : Int) (f : Bool) : qunitS o e q n f = some (.val (Cod.enc (qunitG o q n f).1), row e (qunitG o q n f).2) := by
  unfold qunitS
  rw [qunitT_eq]
  exact pull
theorem unit72 (o : Ops) (b : Bool) (q : V4) : fnSum Try.prog { gam := gamN o } [] 20 38 [.ptr 0 0, .val (Cod.enc q)] (row 25 b) =
    bif decide ((qlen o b q).1 < 549755813888) then qunitT o 25 q (qlen o b q).1 true else qunitT o 25 q (qlen o b q).1 (qlen o b q).2 := by kernel_rfl
theorem unit73 (o : Ops) (b : Bool) (q : V4) : fnSum Try.prog { gam := gamN o } [] 20 115 [.ptr 0 0, .val (Cod.enc q)] (row 27 b) =
    bif decide ((qlen o b q).1 < 549755813888) then qunitS o 27 q (qlen o b q).1 true else qunitS o 27 q (qlen o b q).1 (qlen o b q).2 := by kernel_rfl
theorem ok72 : SumOk Try.prog 38 (S 25 (qunit opsF)) := S_ok gamN_ok 20 fun b a => by
  refine (unit72 opsF b a.1).trans ?_
  rw [qunitT_eq, qunitT_eq]
  exact pull2 (F := qunitF opsF a.1 (qlen opsF b a.1).1)
theorem fnorm_still (a b c : Int) : fnorm true a b c = (0, true) := rfl
/-- A length of four numbers: none of them is above it. -/
theorem qlen_ok {b : Bool} {q : V4} {n : Int} (h : qlen opsF b q = (n, false)) : b = false ∧ (num q.w = true ∧ num q.x = true ∧ num q.y = true ∧ num q.z = true) ∧
    (-n ≤ q.w ∧ q.w ≤ n) ∧ (-n ≤ q.x ∧ q.x ≤ n) ∧ (-n ≤ q.y ∧ q.y ≤ n) ∧ (-n ≤ q.z ∧ q.z ≤ n) ∧ 0 ≤ n ∧ n ≤ 4611686018427387904 := by
  unfold qlen at h
  simp only [opsF] at h
  cases b with
  | true => rw [fnorm_still] at h; exact absurd h (by rw [fnorm_still]; simp)
  | false =>
    rcases hm : fnorm false q.w q.x q.y with ⟨m, f⟩
    rw [hm] at h
    cases f with
    | true => exact absurd h (by rw [fnorm_still]; simp)
    | false =>
      obtain ⟨a1, a2, a3, _, a4, a5⟩ := fnorm_ok hm
      obtain ⟨p1, p2, p3⟩ := fnorm_parts hm
      obtain ⟨b1, b2, b3, _, b4, b5⟩ := fnorm_ok h
      obtain ⟨r1, r2, r3⟩ := fnorm_parts h
      exact ⟨rfl, ⟨a1, a2, a3, b2⟩, by omega, by omega, by omega, r2, b4, b5⟩
theorem fdiv_still (a b : Int) : fdiv true a b = (0, true) := rfl
theorem qunitG_eq {b : Bool} {q : V4} : qunitG opsF q (qlen opsF b q).1 (bif decide ((qlen opsF b q).1 < 549755813888) then true else (qlen opsF b q).2) = qunit opsF b (q, ()) := by
  unfold qunit qunitF qunitG
  rcases hn : qlen opsF b q with ⟨n, f⟩
  dsimp only
  have hbad : ∀ m, qunit0 opsF q m true = (V4.zero, true) := fun m => rfl
  by_cases h0 : n < 549755813888
  · simp only [h0, decide_true, cond_true, hbad]
    rfl
  · simp only [h0, decide_false, cond_false]
    cases f with
    | true => simp only [hbad]; rfl
    | false =>
      obtain ⟨rfl, ⟨a1, a2, a3, a4⟩, p1, p2, p3, p4, n0, n1⟩ := qlen_ok hn
      have hnn : num n = true := num_iff.2 (by omega)
      have e : (qunit0 opsF q n false).2 = false := by
        unfold qunit0
        simp only [opsF, fdiv_small a1 hnn (by omega) p1, fdiv_small a2 hnn (by omega) p2, fdiv_small a3 hnn (by omega) p3, fdiv_small a4 hnn (by omega) p4]
      rw [e]
      rfl
theorem ok73 : SumOk Try.prog 115 (S 27 (qunit opsF)) := S_ok gamN_ok 20 fun b a => by
  refine (unit73 opsF b a.1).trans ?_
  rw [qunitS_eq, qunitS_eq]
  refine (pull2 (F := qunitG opsF a.1 (qlen opsF b a.1).1)).trans ?_
  rw [qunitG_eq]
end Go.Ab
/- Attitudes of Rodrigues vectors, and back. -/
namespace Go.Ab
open Go Go.Proofs
def muldiv (o : Ops) (k e : Int) (x : Int) (f : Bool) : Int × Bool := o.div (o.mul f x k).2 (o.mul f x k).1 e
def rod0 (o : Ops) (p : V3) (d e : Int) (f : Bool) : V4 × Bool :=
  let r := each3 f (muldiv o 8796093022208 e p.x) (muldiv o 8796093022208 e p.y) (muldiv o 8796093022208 e p.z)
  let s := o.sub r.2 17592186044416 d
  let w := o.div s.2 s.1 e
  (mk4 r.1 w.1, w.2)
def rodAt (o : Ops) (v : VOps) (b : Bool) (p : V3) : V4 × Bool :=
  let d := v.dot b (p, p, ())
  let e := o.add d.2 17592186044416 d.1
  rod0 o p d.1 e.1 e.2
def fromRod (o : Ops) (v : VOps) (un : Bool → V4 × Unit → V4 × Bool) (b : Bool) (p : V3 × Unit) : V4 × Bool := un (rodAt o v b p.1).2 ((rodAt o v b p.1).1, ())
theorem rod80 (o : Ops) (v : VOps) (un : Bool → V4 × Unit → V4 × Bool) (b : Bool) (p : V3) : fnSum Try.prog { gam := (38, S 25 un) :: gamNV o v } [] 20 55 [.ptr 0 0, .val (Cod.enc p)] (row 25 b) =
    some (.val (Cod.enc (fromRod o v un b (p, ())).1), row 25 (fromRod o v un b (p, ())).2) := by kernel_rfl
theorem rod81 (o : Ops) (v : VOps) (un : Bool → V4 × Unit → V4 × Bool) (b : Bool) (p : V3) : fnSum Try.prog { gam := (115, S 27 un) :: gamNV o v } [] 20 113 [.ptr 0 0, .val (Cod.enc p)] (row 27 b) =
    some (.val (Cod.enc (fromRod o v un b (p, ())).1), row 27 (fromRod o v un b (p, ())).2) := by kernel_rfl
def add4 (o : Ops) (q : V4) (b : Bool) : Bool := (o.add (o.add (o.add (o.add b q.w 0).2 q.x 0).2 q.y 0).2 q.z 0).2
def torod0 (o : Ops) (q : V4) (f : Bool) : V3 × Bool :=
  let e := o.add f 1099511627776 q.z
  each3 e.2 (muldiv o 4398046511104 e.1 q.w) (muldiv o 4398046511104 e.1 q.x) (muldiv o 4398046511104 e.1 q.y)
def torodT (o : Ops) (e : TypeId) (q : V4) (f : Bool) : Option (AV × List Con) :=
  bif (torod0 o q f).2 then some (.val (Cod.enc V3.zero), row e (torod0 o q f).2) else some (.val (Cod.enc (torod0 o q f).1), row e (torod0 o q f).2)
theorem torodT_eq (o : Ops) (e : TypeId) (q : V4) (f : Bool) : torodT o e q f = some (.val (Cod.enc (done3 (torod0 o q f)).1), row e (done3 (torod0 o q f)).2) := pull
def toRod (o : Ops) (b : Bool) (p : V4 × Unit) : V3 × Bool := bif add4 o p.1 b then (V3.zero, add4 o p.1 b) else done3 (torod0 o (plain p.1) (add4 o p.1 b))
def torodS (o : Ops) (e : TypeId) (q : V4) (b : Bool) : Option (AV × List Con) :=
  bif add4 o q b then some (.val (Cod.enc V3.zero), row e (add4 o q b)) else bif decide (q.z < 0) then torodT o e (neg4 q) (add4 o q b) else torodT o e q (add4 o q b)
theorem torodS_eq (o : Ops) (e : TypeId) (q : V4) (b : Bool) : torodS o e q b = some (.val (Cod.enc (toRod o b (q, ())).1), row e (toRod o b (q, ())).2) := by
  unfold torodS toRod plain
  rw [torodT_eq, torodT_eq]
  dsimp only
  cases add4 o q b <;> cases decide (q.z < 0) <;> rfl
theorem torod82 (o : Ops) (b : Bool) (q : V4) : fnSum Try.prog { gam := gamN o } [] 20 56 [.ptr 0 0, .val (Cod.enc q)] (row 25 b) = torodS o 25 q b := by kernel_rfl
theorem torod83 (o : Ops) (b : Bool) (q : V4) : fnSum Try.prog { gam := gamN o } [] 20 116 [.ptr 0 0, .val (Cod.enc q)] (row 27 b) = torodS o 27 q b := by kernel_rfl
theorem ok80 : SumOk Try.prog 55 (S 25 (fromRod opsF vopsF (qunit opsF))) := S_ok (E := { gam := (38, S 25 (qunit opsF)) :: gamNV opsF vopsF }) (.cons ok72 gamNV_ok) 20 fun b a => rod80 opsF vopsF (qunit opsF) b a.1
theorem ok81 : SumOk Try.prog 113 (S 27 (fromRod opsF vopsF (qunit opsF))) := S_ok (E := { gam := (115, S 27 (qunit opsF)) :: gamNV opsF vopsF }) (.cons ok73 gamNV_ok) 20 fun b a => rod81 opsF vopsF (qunit opsF) b a.1
theorem ok82 : SumOk Try.prog 56 (S 25 (toRod opsF)) := S_ok gamN_ok 20 fun b a => (torod82 opsF b a.1).trans (torodS_eq opsF 25 a.1 b)
theorem ok83 : SumOk Try.prog 116 (S 27 (toRod opsF)) := S_ok gamN_ok 20 fun b a => (torod83 opsF b a.1).trans (torodS_eq opsF 27 a.1 b)
end Go.Ab
/- The filter's rows: less their mean (center). -/
namespace Go.Ab
open Go Go.Proofs
def addN (o : Ops) (v : Nat → Int) : Nat → Nat → Int × Bool → Int × Bool
  | _, 0, s => s
  | k, n + 1, s => addN o v (k + 1) n (o.add s.2 s.1 (v k))
/-- The mean of thirteen numbers, the first one twice. -/
def meanO (o : Ops) (b : Bool) (v : Nat → Int) : Int × Bool :=
  let s := addN o v 1 12 (o.add b (v 0) (v 0))
  o.part s.2 s.1 1 14
def cells13 (x : Mx) : List AV := (nums 0 78).map fun j => .val (.int .i64 (x (j / 6) (j % 6)))
def subRow (o : Ops) (m : Nat → Int) (k : Nat) : Nat → Nat → Mx × Bool → Mx × Bool
  | _, 0, s => s
  | i, n + 1, s => subRow o m k (i + 1) n (setM s.1 k i (o.sub s.2 (s.1 k i) (m i)).1, (o.sub s.2 (s.1 k i) (m i)).2)
noncomputable def ctC : Code := Try.f107.body.getD .skip
noncomputable def ct0 : Code := seqL ctC
noncomputable def ct1 : Code := seqL (seqR ctC)
noncomputable def ctA : Code := seqL (seqR (seqR ctC))
noncomputable def ct2 : Code := seqL ctA
noncomputable def ctL : Code := inB (inB (seqR ctA))
noncomputable def ctB : Code := seqL (seqR (seqR (seqR ctC)))
noncomputable def ct7 : Code := seqL ctB
noncomputable def ctM : Code := inB (inB (seqR ctB))
noncomputable def ctE : Code := seqR (seqR (seqR (seqR ctC)))
theorem ctC_is : Try.f107.body = some (.seq ct0 (.seq ct1 (.seq (.seq ct2 (.block 0 (.loop ctL))) (.seq (.seq ct7 (.block 2 (.loop ctM))) ctE)))) := by kernel_rfl
theorem ctN : Try.f107.ntmps = 45 := by kernel_rfl
abbrev nA : Nat := 4096
abbrev nB : Nat := 4096 + 2 ^ 180
abbrev nC : Nat := 4096 + 2 * 2 ^ 180
abbrev nD : Nat := 4096 + 3 * 2 ^ 180
def ctH (x : Mx) (m : Nat → Int) (b : Bool) : Hp := [(0, .row 111 (cells13 x)), (1, .row 25 [.val (.bool b)]), (nA, .row 119 [.ptr 0 0]), (nB, .row 45 (ints 6 fun _ => 0)), (nC, .row 45 (ints 6 m))]
def ctS (t : Nat) (i : Int) (x : Mx) (m : Nat → Int) (b : Bool) : St := gSt 45 [(1, .ptr 1 0), (2, .ptr nA 0), (4, .ptr nB 0), (5, .ptr nC 0), (t, .val (.int .i64 i))] (ctH x m b) nD
abbrev ctK : List Nat := [0, 1, nA, nB, nC]
abbrev ctT (t : Nat) : List Nat := [1, 2, 4, 5, t]
section
variable (o : Ops) (x : Mx) (m : Nat → Int) (b : Bool)
def ctS0 (x : Mx) (b : Bool) : St := gSt 45 [(1, .ptr 1 0), (2, .ptr nA 0), (4, .ptr nB 0)] [(0, .row 111 (cells13 x)), (1, .row 25 [.val (.bool b)]), (nA, .row 119 [.ptr 0 0]), (nB, .row 45 (ints 6 fun _ => 0))] nC
def ctS1 (x : Mx) (b : Bool) : St := gSt 45 [(1, .ptr 1 0), (2, .ptr nA 0), (4, .ptr nB 0), (5, .ptr nC 0)] (ctH x (fun _ => 0) b) nD
theorem cq0 : gRun Try.prog { gam := gamN o } 45 ct0 (startS 45 [.ptr 0 0, .ptr 1 0] [.row 111 (cells13 x), .row 25 [.val (.bool b)]]) [0, 1, nA, nB] [1, 2, 4] = some (.normal, ctS0 x b) := by kernel_rfl
theorem cq1 : gRun Try.prog { gam := gamN o } 45 ct1 (ctS0 x b) ctK [1, 2, 4, 5] = some (.normal, ctS1 x b) := by kernel_rfl
theorem cq2 : gRun Try.prog { gam := gamN o } 45 ct2 (ctS1 x b) ctK (ctT 9) = some (.normal, ctS 9 0 x (fun _ => 0) b) := by kernel_rfl
theorem cqA_0 : gCut Try.prog { gam := gamN o } 45 ctL (ctS 9 0 x m b) nD ctK (ctT 9) = some (.normal, ctS 9 1 x (setR m 0 (meanO o b fun k => x k 0).1) (meanO o b fun k => x k 0).2) := by kernel_rfl
theorem cqA_1 : gCut Try.prog { gam := gamN o } 45 ctL (ctS 9 1 x m b) nD ctK (ctT 9) = some (.normal, ctS 9 2 x (setR m 1 (meanO o b fun k => x k 1).1) (meanO o b fun k => x k 1).2) := by kernel_rfl
theorem cqA_2 : gCut Try.prog { gam := gamN o } 45 ctL (ctS 9 2 x m b) nD ctK (ctT 9) = some (.normal, ctS 9 3 x (setR m 2 (meanO o b fun k => x k 2).1) (meanO o b fun k => x k 2).2) := by kernel_rfl
theorem cqA_3 : gCut Try.prog { gam := gamN o } 45 ctL (ctS 9 3 x m b) nD ctK (ctT 9) = some (.normal, ctS 9 4 x (setR m 3 (meanO o b fun k => x k 3).1) (meanO o b fun k => x k 3).2) := by kernel_rfl
theorem cqA_4 : gCut Try.prog { gam := gamN o } 45 ctL (ctS 9 4 x m b) nD ctK (ctT 9) = some (.normal, ctS 9 5 x (setR m 4 (meanO o b fun k => x k 4).1) (meanO o b fun k => x k 4).2) := by kernel_rfl
theorem cqA_5 : gCut Try.prog { gam := gamN o } 45 ctL (ctS 9 5 x m b) nD ctK (ctT 9) = some (.normal, ctS 9 6 x (setR m 5 (meanO o b fun k => x k 5).1) (meanO o b fun k => x k 5).2) := by kernel_rfl
theorem cqA_6 : gCut Try.prog { gam := gamN o } 45 ctL (ctS 9 6 x m b) nD ctK (ctT 9) = some (.exit 0, ctS 9 6 x m b) := by kernel_rfl
theorem cq7 : gCut Try.prog { gam := gamN o } 45 ct7 (ctS 9 6 x m b) nD ctK (ctT 18) = some (.normal, ctS 18 0 x m b) := by kernel_rfl
theorem cqM_0 : gCut Try.prog { gam := gamN o } 45 ctM (ctS 18 0 x m b) nD ctK (ctT 18) = some (.normal, ctS 18 1 (subRow o m 0 0 6 (x, b)).1 m (subRow o m 0 0 6 (x, b)).2) := by kernel_rfl
theorem cqM_1 : gCut Try.prog { gam := gamN o } 45 ctM (ctS 18 1 x m b) nD ctK (ctT 18) = some (.normal, ctS 18 2 (subRow o m 1 0 6 (x, b)).1 m (subRow o m 1 0 6 (x, b)).2) := by kernel_rfl
theorem cqM_2 : gCut Try.prog { gam := gamN o } 45 ctM (ctS 18 2 x m b) nD ctK (ctT 18) = some (.normal, ctS 18 3 (subRow o m 2 0 6 (x, b)).1 m (subRow o m 2 0 6 (x, b)).2) := by kernel_rfl
theorem cqM_3 : gCut Try.prog { gam := gamN o } 45 ctM (ctS 18 3 x m b) nD ctK (ctT 18) = some (.normal, ctS 18 4 (subRow o m 3 0 6 (x, b)).1 m (subRow o m 3 0 6 (x, b)).2) := by kernel_rfl
theorem cqM_4 : gCut Try.prog { gam := gamN o } 45 ctM (ctS 18 4 x m b) nD ctK (ctT 18) = some (.normal, ctS 18 5 (subRow o m 4 0 6 (x, b)).1 m (subRow o m 4 0 6 (x, b)).2) := by kernel_rfl
theorem cqM_5 : gCut Try.prog { gam := gamN o } 45 ctM (ctS 18 5 x m b) nD ctK (ctT 18) = some (.normal, ctS 18 6 (subRow o m 5 0 6 (x, b)).1 m (subRow o m 5 0 6 (x, b)).2) := by kernel_rfl
theorem cqM_6 : gCut Try.prog { gam := gamN o } 45 ctM (ctS 18 6 x m b) nD ctK (ctT 18) = some (.normal, ctS 18 7 (subRow o m 6 0 6 (x, b)).1 m (subRow o m 6 0 6 (x, b)).2) := by kernel_rfl
theorem cqM_7 : gCut Try.prog { gam := gamN o } 45 ctM (ctS 18 7 x m b) nD ctK (ctT 18) = some (.normal, ctS 18 8 (subRow o m 7 0 6 (x, b)).1 m (subRow o m 7 0 6 (x, b)).2) := by kernel_rfl
theorem cqM_8 : gCut Try.prog { gam := gamN o } 45 ctM (ctS 18 8 x m b) nD ctK (ctT 18) = some (.normal, ctS 18 9 (subRow o m 8 0 6 (x, b)).1 m (subRow o m 8 0 6 (x, b)).2) := by kernel_rfl
theorem cqM_9 : gCut Try.prog { gam := gamN o } 45 ctM (ctS 18 9 x m b) nD ctK (ctT 18) = some (.normal, ctS 18 10 (subRow o m 9 0 6 (x, b)).1 m (subRow o m 9 0 6 (x, b)).2) := by kernel_rfl
theorem cqM_10 : gCut Try.prog { gam := gamN o } 45 ctM (ctS 18 10 x m b) nD ctK (ctT 18) = some (.normal, ctS 18 11 (subRow o m 10 0 6 (x, b)).1 m (subRow o m 10 0 6 (x, b)).2) := by kernel_rfl
theorem cqM_11 : gCut Try.prog { gam := gamN o } 45 ctM (ctS 18 11 x m b) nD ctK (ctT 18) = some (.normal, ctS 18 12 (subRow o m 11 0 6 (x, b)).1 m (subRow o m 11 0 6 (x, b)).2) := by kernel_rfl
theorem cqM_12 : gCut Try.prog { gam := gamN o } 45 ctM (ctS 18 12 x m b) nD ctK (ctT 18) = some (.normal, ctS 18 13 (subRow o m 12 0 6 (x, b)).1 m (subRow o m 12 0 6 (x, b)).2) := by kernel_rfl
theorem cqM_13 : gCut Try.prog { gam := gamN o } 45 ctM (ctS 18 13 x m b) nD ctK (ctT 18) = some (.exit 2, ctS 18 13 x m b) := by kernel_rfl
def ctF (x : Mx) (m : Nat → Int) (b : Bool) : St := gSt 45 [(4, .ptr nB 0)] [(0, .row 111 (cells13 x)), (1, .row 25 [.val (.bool b)]), (nB, .row 45 (ints 6 m))] nD
theorem cqE : gRun Try.prog { gam := gamN o } 45 ctE (ctS 18 13 x m b) [0, 1, nB] [4] = some (.ret, ctF x m b) := by kernel_rfl
theorem cqR : resA Try.prog (ctF x m b) Try.f107.results.toList = some [.val (Cod.enc (R6.of m))] := by kernel_rfl
theorem cqc9 (i : Int) : okClean nD (ctS 9 i x m b) = true := by kernel_rfl
theorem cqc18 (i : Int) : okClean nD (ctS 18 i x m b) = true := by kernel_rfl
end
def ctPA (o : Ops) (x : Mx) (i : Nat) (z : (Nat → Int) × Bool) : (Nat → Int) × Bool := (setR z.1 i (meanO o z.2 fun k => x k i).1, (meanO o z.2 fun k => x k i).2)
def ctPM (o : Ops) (m : Nat → Int) (k : Nat) (z : Mx × Bool) : Mx × Bool := subRow o m k 0 6 z
/-- What rows are less their mean, and that. -/
def centerO (o : Ops) (b : Bool) (x : Mx) : (Mx × (Nat → Int)) × Bool :=
  let m := iterF (ctPA o x) 0 6 (fun _ => 0, b)
  let y := iterF (ctPM o m.1) 0 13 (x, m.2)
  ((y.1, m.1), y.2)
theorem ct_lo9 (x : Mx) (m : Nat → Int) (b : Bool) (i : Int) : (ctS 9 i x m b).lo = nD := rfl
theorem ct_lo18 (x : Mx) (m : Nat → Int) (b : Bool) (i : Int) : (ctS 18 i x m b).lo = nD := rfl
theorem ct_hi (t t' : Nat) (x x' : Mx) (m m' : Nat → Int) (b b' : Bool) (i i' : Int) : (ctS t i x m b).hi = (ctS t' i' x' m' b').hi := rfl
section
variable {o : Ops} (hG : GamOk Try.prog ({ gam := gamN o } : Env).gam) (x : Mx) (m : Nat → Int) (b : Bool)
include hG
theorem cuA_0 : RunsTo Try.prog 45 ctL (ctS 9 0 x m b) .normal (ctS 9 1 x (setR m 0 (meanO o b fun k => x k 0).1) (meanO o b fun k => x k 0).2) := gCut_runs hG (cqA_0 o x m b) (ct_lo9 ..) (cqc9 ..) (ct_hi ..)
theorem cuA_1 : RunsTo Try.prog 45 ctL (ctS 9 1 x m b) .normal (ctS 9 2 x (setR m 1 (meanO o b fun k => x k 1).1) (meanO o b fun k => x k 1).2) := gCut_runs hG (cqA_1 o x m b) (ct_lo9 ..) (cqc9 ..) (ct_hi ..)
theorem cuA_2 : RunsTo Try.prog 45 ctL (ctS 9 2 x m b) .normal (ctS 9 3 x (setR m 2 (meanO o b fun k => x k 2).1) (meanO o b fun k => x k 2).2) := gCut_runs hG (cqA_2 o x m b) (ct_lo9 ..) (cqc9 ..) (ct_hi ..)
theorem cuA_3 : RunsTo Try.prog 45 ctL (ctS 9 3 x m b) .normal (ctS 9 4 x (setR m 3 (meanO o b fun k => x k 3).1) (meanO o b fun k => x k 3).2) := gCut_runs hG (cqA_3 o x m b) (ct_lo9 ..) (cqc9 ..) (ct_hi ..)
theorem cuA_4 : RunsTo Try.prog 45 ctL (ctS 9 4 x m b) .normal (ctS 9 5 x (setR m 4 (meanO o b fun k => x k 4).1) (meanO o b fun k => x k 4).2) := gCut_runs hG (cqA_4 o x m b) (ct_lo9 ..) (cqc9 ..) (ct_hi ..)
theorem cuA_5 : RunsTo Try.prog 45 ctL (ctS 9 5 x m b) .normal (ctS 9 6 x (setR m 5 (meanO o b fun k => x k 5).1) (meanO o b fun k => x k 5).2) := gCut_runs hG (cqA_5 o x m b) (ct_lo9 ..) (cqc9 ..) (ct_hi ..)
theorem cuA_6 : RunsTo Try.prog 45 ctL (ctS 9 6 x m b) (.exit 0) (ctS 9 6 x m b) := gCut_runs hG (cqA_6 o x m b) (ct_lo9 ..) (cqc9 ..) (ct_hi ..)
theorem cuM_0 : RunsTo Try.prog 45 ctM (ctS 18 0 x m b) .normal (ctS 18 1 (subRow o m 0 0 6 (x, b)).1 m (subRow o m 0 0 6 (x, b)).2) := gCut_runs hG (cqM_0 o x m b) (ct_lo18 ..) (cqc18 ..) (ct_hi ..)
theorem cuM_1 : RunsTo Try.prog 45 ctM (ctS 18 1 x m b) .normal (ctS 18 2 (subRow o m 1 0 6 (x, b)).1 m (subRow o m 1 0 6 (x, b)).2) := gCut_runs hG (cqM_1 o x m b) (ct_lo18 ..) (cqc18 ..) (ct_hi ..)
theorem cuM_2 : RunsTo Try.prog 45 ctM (ctS 18 2 x m b) .normal (ctS 18 3 (subRow o m 2 0 6 (x, b)).1 m (subRow o m 2 0 6 (x, b)).2) := gCut_runs hG (cqM_2 o x m b) (ct_lo18 ..) (cqc18 ..) (ct_hi ..)
theorem cuM_3 : RunsTo Try.prog 45 ctM (ctS 18 3 x m b) .normal (ctS 18 4 (subRow o m 3 0 6 (x, b)).1 m (subRow o m 3 0 6 (x, b)).2) := gCut_runs hG (cqM_3 o x m b) (ct_lo18 ..) (cqc18 ..) (ct_hi ..)
theorem cuM_4 : RunsTo Try.prog 45 ctM (ctS 18 4 x m b) .normal (ctS 18 5 (subRow o m 4 0 6 (x, b)).1 m (subRow o m 4 0 6 (x, b)).2) := gCut_runs hG (cqM_4 o x m b) (ct_lo18 ..) (cqc18 ..) (ct_hi ..)
theorem cuM_5 : RunsTo Try.prog 45 ctM (ctS 18 5 x m b) .normal (ctS 18 6 (subRow o m 5 0 6 (x, b)).1 m (subRow o m 5 0 6 (x, b)).2) := gCut_runs hG (cqM_5 o x m b) (ct_lo18 ..) (cqc18 ..) (ct_hi ..)
theorem cuM_6 : RunsTo Try.prog 45 ctM (ctS 18 6 x m b) .normal (ctS 18 7 (subRow o m 6 0 6 (x, b)).1 m (subRow o m 6 0 6 (x, b)).2) := gCut_runs hG (cqM_6 o x m b) (ct_lo18 ..) (cqc18 ..) (ct_hi ..)
theorem cuM_7 : RunsTo Try.prog 45 ctM (ctS 18 7 x m b) .normal (ctS 18 8 (subRow o m 7 0 6 (x, b)).1 m (subRow o m 7 0 6 (x, b)).2) := gCut_runs hG (cqM_7 o x m b) (ct_lo18 ..) (cqc18 ..) (ct_hi ..)
theorem cuM_8 : RunsTo Try.prog 45 ctM (ctS 18 8 x m b) .normal (ctS 18 9 (subRow o m 8 0 6 (x, b)).1 m (subRow o m 8 0 6 (x, b)).2) := gCut_runs hG (cqM_8 o x m b) (ct_lo18 ..) (cqc18 ..) (ct_hi ..)
theorem cuM_9 : RunsTo Try.prog 45 ctM (ctS 18 9 x m b) .normal (ctS 18 10 (subRow o m 9 0 6 (x, b)).1 m (subRow o m 9 0 6 (x, b)).2) := gCut_runs hG (cqM_9 o x m b) (ct_lo18 ..) (cqc18 ..) (ct_hi ..)
theorem cuM_10 : RunsTo Try.prog 45 ctM (ctS 18 10 x m b) .normal (ctS 18 11 (subRow o m 10 0 6 (x, b)).1 m (subRow o m 10 0 6 (x, b)).2) := gCut_runs hG (cqM_10 o x m b) (ct_lo18 ..) (cqc18 ..) (ct_hi ..)
theorem cuM_11 : RunsTo Try.prog 45 ctM (ctS 18 11 x m b) .normal (ctS 18 12 (subRow o m 11 0 6 (x, b)).1 m (subRow o m 11 0 6 (x, b)).2) := gCut_runs hG (cqM_11 o x m b) (ct_lo18 ..) (cqc18 ..) (ct_hi ..)
theorem cuM_12 : RunsTo Try.prog 45 ctM (ctS 18 12 x m b) .normal (ctS 18 13 (subRow o m 12 0 6 (x, b)).1 m (subRow o m 12 0 6 (x, b)).2) := gCut_runs hG (cqM_12 o x m b) (ct_lo18 ..) (cqc18 ..) (ct_hi ..)
theorem cuM_13 : RunsTo Try.prog 45 ctM (ctS 18 13 x m b) (.exit 2) (ctS 18 13 x m b) := gCut_runs hG (cqM_13 o x m b) (ct_lo18 ..) (cqc18 ..) (ct_hi ..)
theorem center_A : RunsTo Try.prog 45 (.block 0 (.loop ctL)) (ctS 9 0 x m b) .normal (ctS 9 6 x (iterF (ctPA o x) 0 6 (m, b)).1 (iterF (ctPA o x) 0 6 (m, b)).2) :=
  RunsTo.rounds (P := Try.prog) (N := 45) (c := ctL) (id := 0) 6 (fun i z => ctS 9 i x z.1 z.2) (fun z => ctS 9 6 x z.1 z.2) (ctPA o x)
    (fun i z hi => match i, hi with
      | 0, _ => cuA_0 hG x z.1 z.2
      | 1, _ => cuA_1 hG x z.1 z.2
      | 2, _ => cuA_2 hG x z.1 z.2
      | 3, _ => cuA_3 hG x z.1 z.2
      | 4, _ => cuA_4 hG x z.1 z.2
      | 5, _ => cuA_5 hG x z.1 z.2
      | n + 6, h => absurd h (by omega))
    (fun z => cuA_6 hG x z.1 z.2) (m, b)
theorem center_M : RunsTo Try.prog 45 (.block 2 (.loop ctM)) (ctS 18 0 x m b) .normal (ctS 18 13 (iterF (ctPM o m) 0 13 (x, b)).1 m (iterF (ctPM o m) 0 13 (x, b)).2) :=
  RunsTo.rounds (P := Try.prog) (N := 45) (c := ctM) (id := 2) 13 (fun k z => ctS 18 k z.1 m z.2) (fun z => ctS 18 13 z.1 m z.2) (ctPM o m)
    (fun k z hk => match k, hk with
      | 0, _ => cuM_0 hG z.1 m z.2
      | 1, _ => cuM_1 hG z.1 m z.2
      | 2, _ => cuM_2 hG z.1 m z.2
      | 3, _ => cuM_3 hG z.1 m z.2
      | 4, _ => cuM_4 hG z.1 m z.2
      | 5, _ => cuM_5 hG z.1 m z.2
      | 6, _ => cuM_6 hG z.1 m z.2
      | 7, _ => cuM_7 hG z.1 m z.2
      | 8, _ => cuM_8 hG z.1 m z.2
      | 9, _ => cuM_9 hG z.1 m z.2
      | 10, _ => cuM_10 hG z.1 m z.2
      | 11, _ => cuM_11 hG z.1 m z.2
      | 12, _ => cuM_12 hG z.1 m z.2
      | n + 13, h => absurd h (by omega))
    (fun z => cuM_13 hG z.1 m z.2) (x, b)
theorem center_runs : RunsTo Try.prog 45 ctC (startS 45 [.ptr 0 0, .ptr 1 0] [.row 111 (cells13 x), .row 25 [.val (.bool b)]]) .ret (ctF (centerO o b x).1.1 (centerO o b x).1.2 (centerO o b x).2) := by
  have hc : ctC = .seq ct0 (.seq ct1 (.seq (.seq ct2 (.block 0 (.loop ctL))) (.seq (.seq ct7 (.block 2 (.loop ctM))) ctE))) := by
    unfold ctC
    rw [ctC_is]
    rfl
  rw [hc]
  have hA := center_A hG x (fun _ => 0) b
  generalize hm : iterF (ctPA o x) 0 6 (fun _ => 0, b) = m at hA
  have hM := center_M hG x m.1 m.2
  have hx : centerO o b x = (((iterF (ctPM o m.1) 0 13 (x, m.2)).1, m.1), (iterF (ctPM o m.1) 0 13 (x, m.2)).2) := by unfold centerO; rw [hm]
  rw [hx]
  generalize iterF (ctPM o m.1) 0 13 (x, m.2) = y at hM
  have h2 := gRun_runs hG (cq2 o x b)
  have h7 := gCut_runs hG (cq7 o x m.1 m.2) (ct_lo9 ..) (cqc18 ..) (ct_hi ..)
  have hEnd := gRun_runs hG (cqE o y.1 m.1 y.2)
  exact (gRun_runs hG (cq0 o x b)).seq ((gRun_runs hG (cq1 o x b)).seq ((h2.seq hA).seq ((h7.seq hM).seq hEnd)))
end
def isI : AV → Bool
  | .val (.int .i64 _) => true
  | _ => false
def getI (l : List AV) (j : Nat) : Int := match l[j]? with
  | some (.val (.int .i64 n)) => n
  | _ => 0
def rdInts (n : Nat) (l : List AV) : Option (Nat → Int) := match Nat.beq l.length n && l.all isI with
  | true => some (getI l)
  | false => none
theorem rdInts_law {n : Nat} {l : List AV} {v : Nat → Int} (h : rdInts n l = some v) : l = ints n v := by
  unfold rdInts at h
  split at h
  · rename_i hc
    cases h
    simp only [Bool.and_eq_true, List.all_eq_true] at hc
    obtain ⟨h1, h2⟩ := hc
    have h1 := Nat.eq_of_beq_eq_true h1
    apply List.ext_getElem?
    intro j
    unfold ints
    rw [List.getElem?_map]
    by_cases hj : j < n
    · have hl : j < (nums 0 n).length := by rw [nums_length]; exact hj
      have e := (nums_get n 0 j _ (List.getElem?_eq_getElem hl)).1
      have hjl : j < l.length := by omega
      rw [List.getElem?_eq_getElem hl, List.getElem?_eq_getElem hjl, e, Nat.zero_add, Option.map_some]
      have := h2 l[j] (List.getElem_mem _)
      unfold getI
      rw [List.getElem?_eq_getElem hjl]
      unfold isI at this
      split at this
      · rename_i k hk
        rw [hk]
      · cases this
    · rw [List.getElem?_eq_none (by omega), List.getElem?_eq_none (by rw [nums_length]; omega)]
      rfl
  · cases h
def x6 (v : Nat → Int) : Mx := fun k i => v (6 * k + i)
theorem cells13_x6 (v : Nat → Int) : cells13 (x6 v) = ints 78 v := by
  unfold cells13 ints x6
  congr 1
  funext j
  rw [Nat.div_add_mod]
def centerS (g : Bool → Mx → (Mx × (Nat → Int)) × Bool) : Summary := fun args cs => match args, cs with
  | [.ptr 0 0, .ptr 1 0], [.row e l, .row e2 [.val (.bool b)]] => match Nat.beq e 111 && Nat.beq e2 25, rdInts 78 l with
    | true, some v => .ret (.val (Cod.enc (R6.of (g b (x6 v)).1.2))) [.row 111 (cells13 (g b (x6 v)).1.1), .row 25 [.val (.bool (g b (x6 v)).2)]]
    | _, _ => .no
  | _, _ => .no
theorem centerS_sel {g : Bool → Mx → (Mx × (Nat → Int)) × Bool} {args : List AV} {cs cs' : List Con} {r : AV} (h : (centerS g args cs).sel = some (r, cs')) :
    ∃ b x, args = [.ptr 0 0, .ptr 1 0] ∧ cs = [.row 111 (cells13 x), .row 25 [.val (.bool b)]] ∧ r = .val (Cod.enc (R6.of (g b x).1.2)) ∧ cs' = [.row 111 (cells13 (g b x).1.1), .row 25 [.val (.bool (g b x).2)]] := by
  unfold centerS at h
  split at h
  · split at h
    · rename_i e l e2 b _ _ v he hv
      simp only [STr.sel, Option.some.injEq, Prod.mk.injEq] at h
      obtain ⟨rfl, rfl⟩ := h
      simp only [Bool.and_eq_true] at he
      refine ⟨b, x6 v, rfl, ?_, rfl, rfl⟩
      rw [Nat.eq_of_beq_eq_true he.1, Nat.eq_of_beq_eq_true he.2, rdInts_law hv, cells13_x6]
    · simp [STr.sel] at h
  · simp [STr.sel] at h
theorem f57_is : Try.prog.funcs[107]? = some Try.f107 := by kernel_rfl
theorem ren13 (x : Mx) (b : Bool) : renCs (upTo 2) [.row 111 (cells13 x), .row 25 [.val (.bool b)]] = some [.row 111 (cells13 x), .row 25 [.val (.bool b)]] := by kernel_rfl
theorem okCenter {o : Ops} (hG : GamOk Try.prog (gamN o)) : SumOk Try.prog 107 (centerS (centerO o)) := by
  intro args cs r cs' hs
  obtain ⟨b, x, rfl, rfl, rfl, rfl⟩ := centerS_sel hs
  refine sum_runs f57_is (c := ctC) (by unfold ctC; rw [ctC_is]; rfl) ctN (by simp) (by simp) rfl rfl (ren13 x b) (.inr rfl) (center_runs (o := o) hG x b) (cqR ..) rfl rfl (fun b' c hb => ?_) rfl (ren13 ..)
  match b', hb with
  | 0, hb => cases hb; rfl
  | 1, hb => cases hb; rfl
  | n + 2, hb => simp at hb
end Go.Ab
/- The filter's products. -/
namespace Go.Ab
open Go Go.Proofs
def pmN (o : Ops) (u v : Nat → Int) : Nat → Nat → Int × Bool → Int × Bool
  | _, 0, s => s
  | k, n + 1, s => pmN o u v (k + 1) n (let p := o.mul s.2 (u k) (v k); o.add p.2 s.1 p.1)
/-- The mean of products. -/
def pmO (o : Ops) (b : Bool) (u v : Nat → Int) : Int × Bool :=
  let p := o.mul b (u 0) (v 0)
  let s := pmN o u v 1 12 (o.add p.2 p.1 p.1)
  o.part s.2 s.1 1 14
noncomputable def prC : Code := Try.f108.body.getD .skip
noncomputable def pr0 : Code := seqL prC
noncomputable def pr1 : Code := seqL (seqR prC)
noncomputable def prA : Code := seqL (seqR (seqR prC))
noncomputable def pr2 : Code := seqL prA
noncomputable def prL : Code := inB (inB (seqR prA))
noncomputable def prE : Code := seqR (seqR (seqR prC))
noncomputable def pr3 : Code := seqL prL
noncomputable def pr3b : Code := seqL (seqR prL)
noncomputable def prI : Code := inB (seqL (seqR (seqR prL)))
noncomputable def pr4 : Code := seqL prI
noncomputable def pr5 : Code := seqL (seqR prI)
noncomputable def prM : Code := inB (inB (seqR (seqR prI)))
noncomputable def pr10 : Code := seqR (seqR (seqR prL))
theorem prC_is : Try.f108.body = some (.seq pr0 (.seq pr1 (.seq (.seq pr2 (.block 0 (.loop prL))) prE))) := by kernel_rfl
theorem prL_is : prL = .seq pr3 (.seq pr3b (.seq (.block 1 (.seq pr4 (.seq pr5 (.block 2 (.loop prM))))) pr10)) := by kernel_rfl
abbrev nE : Nat := 4096 + 4 * 2 ^ 180
abbrev nF : Nat := 4096 + 5 * 2 ^ 180
abbrev nG : Nat := 4096 + 6 * 2 ^ 180
def cells36 (m : Mx) : List AV := (nums 0 36).map fun j => .val (.int .i64 (m (j / 6) (j % 6)))
def prFx : List (Nat × AV) := [(3, .ptr nA 0), (4, .ptr nB 0), (5, .ptr nC 0), (6, .ptr nD 0), (7, .ptr nE 0)]
def prS (e : List (Nat × AV)) (H : Hp) (lo : Nat) : St := gSt 26 (prFx ++ e) H lo
abbrev prT (t : List Nat) : List Nat := [3, 4, 5, 6, 7] ++ t
def prJ_F (o : Ops) (x y : Mx) (i j : Nat) (z : Mx × Bool) : Mx × Bool := (setM z.1 i j (pmO o z.2 (fun k => x k i) (fun k => y k j)).1, (pmO o z.2 (fun k => x k i) (fun k => y k j)).2)
def prI_F (o : Ops) (x y : Mx) (i : Nat) (z : Mx × Bool) : Mx × Bool := iterF (prJ_F o x y i) 0 6 z
/-- The means of products of numbers of x and of y. -/
def prodO (o : Ops) (b : Bool) (x y : Mx) : Mx × Bool := iterF (prI_F o x y) 0 6 (mx0, b)
theorem f58_is : Try.prog.funcs[108]? = some Try.f108 := by kernel_rfl
theorem prN : Try.f108.ntmps = 26 := by kernel_rfl
end Go.Ab
