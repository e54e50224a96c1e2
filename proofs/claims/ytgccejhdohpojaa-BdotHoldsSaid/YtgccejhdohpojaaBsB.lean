/- A part of the proof of 'BdotHolds': lemmas, no statement of their own; no condition. -/
import Derived.Test.YtgccejhdohpojaaBsA
import Derived.Test.YtgccejhdohpojaaFxAll
/- BdotSteps: one field more is the document's. -/
namespace Go.Ab
open Go Go.Proofs
def gapT (tk dt : Int) : Int := if 10 ≤ tk - dt ∧ tk - dt ≤ 10000 then tk - dt else 0
def gapI (tk dt i : Int) : Int := if 10 ≤ tk - dt ∧ tk - dt < i then tk - dt else 0
def stPre : List Value → Bool
  | .int .i64 tk :: .int .i64 t :: .int .i64 i :: _ :: _ :: .int .i64 dt :: _ => i64? tk && (i64? dt && decide (10 ≤ i ∧ i ≤ 10001 ∧ t = gapI tk dt i))
  | _ => false
def stPost : List Value → List Value := stPostV gapT
theorem stShape {xs : List Value} (hl : xs.length = 23) (h : stPre xs = true) : ∃ tk t i dt w, xs = stVs tk t i dt w ∧ i64? tk = true ∧ i64? dt = true ∧ 10 ≤ i ∧ i ≤ 10001 ∧ t = gapI tk dt i := by
  unfold stPre at h
  split at h
  · rename_i tk t i a b dt r
    simp only [Bool.and_eq_true, decide_eq_true_eq] at h
    simp only [List.length_cons] at hl
    match r, hl with
    | [c0, c1, c2, c3, c4, c5, c6, c7, c8, c9, c10, c11, c12, c13, c14, c15, c16], _ =>
      exact ⟨tk, t, i, dt, fun k => [a, b, c0, c1, c2, c3, c4, c5, c6, c7, c8, c9, c10, c11, c12, c13, c14, c15, c16].getD k.val (.bool false), rfl, h.1, h.2.1, h.2.2.1, h.2.2.2.1, h.2.2.2.2⟩
  · cases h
def stHints : Hints := [(2, lvHint 103 stSl stFx stG stRows stPre stPost)]
theorem stFit : ∀ fn c, Try.prog.funcs[59]? = some fn → fn.body = some c → HFit Try.prog fn.ntmps stHints c := by
  intro fn c hf hb
  rw [Try.func59] at hf
  cases hf
  have hc : Try.f59.body.getD .skip = c := by rw [hb]; rfl
  rw [stTmps]
  have hL := stBlocks
  rw [hc] at hL
  refine HFit.of fun p hp h hh s s' hs => ?_
  rw [hL] at hp
  simp only [List.mem_cons, List.not_mem_nil, or_false] at hp
  rcases hp with rfl | rfl | rfl | rfl | rfl | rfl
  · simp [findH, stHints] at hh
  · simp [findH, stHints] at hh
  · have : h = lvHint 103 stSl stFx stG stRows stPre stPost := (Option.some.inj hh).symm
    subst this
    have hcall : ∀ β, CallOk Try.prog (callN Try.prog { gam := [] } 1 β) := callN_ok GamOk.nil 1
    refine lv_ok hcall (F := 50) (wy := {}) (fun xs => match xs with | _ :: _ :: .int _ i :: _ => (10001 - i).toNat | _ => 0) ?_ s s' hs
    intro xs hlen hpre x lo hi step
    obtain ⟨tk, t, i, dt, w, rfl, h1, h2, h3, h4, h5⟩ := stShape hlen hpre
    rw [stRound]
    simp only [i64?, decide_eq_true_eq] at h1 h2
    have next : ∀ t', t' = gapI tk dt (i + 1) → i ≤ 10000 →
        ∃ ys, ys.length = stSl.length + rowLenV stRows ∧ stPre ys = true ∧ (match ys with | _ :: _ :: .int _ i :: _ => (10001 - i).toNat | _ => 0) < (match stVs tk t i dt w with | _ :: _ :: .int _ i :: _ => (10001 - i).toNat | _ => 0) ∧ stPost ys = stPost (stVs tk t i dt w) ∧
          (some (Ex.normal, lvSt 103 stSl stFx stG stRows (stVs tk t' (i + 1) dt w) x lo hi step) : Option (Ex × St)) = some (.normal, lvSt 103 stSl stFx stG stRows ys x lo hi step) := by
      intro t' ht' hi'
      refine ⟨stVs tk t' (i + 1) dt w, rfl, ?_, ?_, rfl, rfl⟩
      · simp only [stVs, stPre, i64?, Bool.and_eq_true, decide_eq_true_eq]
        exact ⟨by omega, by omega, by omega, by omega, ht'⟩
      · show (10001 - (i + 1)).toNat < (10001 - i).toNat
        omega
    by_cases hi0 : i ≤ 10000
    · simp only [hi0, decide_true, cond_true]
      rw [wrap_i64_id (z := 9223372036854775807 - i) (by omega) (by omega), wrap_i64_id (z := i + 1) (by omega) (by omega)]
      by_cases hd : dt ≤ 9223372036854775807 - i
      · simp only [hd, decide_true, cond_true]
        rw [wrap_i64_id (z := dt + i) (by omega) (by omega)]
        by_cases he : dt + i = tk
        · rw [show (dt + i == tk) = true by simp; exact he, cond_true]
          refine .inl (next i ?_ hi0)
          unfold gapI
          rw [if_pos (by omega)]; omega
        · rw [show (dt + i == tk) = false by simp; exact he, cond_false]
          refine .inl (next t ?_ hi0)
          subst h5
          unfold gapI
          by_cases hg : 10 ≤ tk - dt ∧ tk - dt < i
          · rw [if_pos hg, if_pos (by omega)]
          · rw [if_neg hg, if_neg (by omega)]
      · simp only [hd, decide_false, cond_false]
        refine .inl (next t ?_ hi0)
        subst h5
        unfold gapI
        by_cases hg : 10 ≤ tk - dt ∧ tk - dt < i
        · rw [if_pos hg, if_pos (by omega)]
        · rw [if_neg hg, if_neg (by omega)]
    · simp only [hi0, decide_false, cond_false]
      refine .inr ?_
      have hi1 : i = 10001 := by omega
      subst hi1
      have : stPost (stVs tk t 10001 dt w) = stVs tk t 10001 dt w := by
        have e : gapT tk dt = t := by
          subst h5
          unfold gapT gapI
          by_cases hg : 10 ≤ tk - dt ∧ tk - dt ≤ 10000
          · rw [if_pos hg, if_pos (by omega)]
          · rw [if_neg hg, if_neg (by omega)]
        simp only [stPost, stVs, stPostV, e]
      rw [this]
  · simp [findH, stHints] at hh
  · simp [findH, stHints] at hh
  · simp [findH, stHints] at hh
def btV (p : Int × Int × Unit) : Two Int Bool :=
  bif decide (p.2.1 < p.1) then ⟨0, false⟩ else ⟨IntKind.i64.wrap (IntKind.u64.wrap (IntKind.u64.wrap p.2.1 - IntKind.u64.wrap p.1)),
    bif decide (IntKind.u64.wrap (IntKind.u64.wrap p.2.1 - IntKind.u64.wrap p.1) ≥ 10) then decide (IntKind.u64.wrap (IntKind.u64.wrap p.2.1 - IntKind.u64.wrap p.1) ≤ 10000) else false⟩
theorem ok133 : SumOk Try.prog 133 (S0 btV) := S0_ok (E := { gam := [] }) GamOk.nil 20 fun a => by
  refine (betw133 a.1 a.2.1).trans ?_
  unfold btV
  dsimp only
  generalize IntKind.u64.wrap (IntKind.u64.wrap a.2.1 - IntKind.u64.wrap a.1) = D
  cases decide (a.2.1 < a.1) <;> cases decide (D ≥ 10) <;> rfl
theorem btV_eq {s t : Int} (hs : i64? s = true) (ht : i64? t = true) : ((btV (s, t, ())).b = true → (btV (s, t, ())).a = gapT t s ∧ gapT t s ≠ 0) ∧ ((btV (s, t, ())).b = false → gapT t s = 0) := by
  simp only [i64?, decide_eq_true_eq] at hs ht
  unfold btV gapT
  dsimp only
  by_cases h : t < s
  · simp only [h, decide_true, cond_true]
    refine ⟨fun h => absurd h (by simp), fun _ => ?_⟩
    rw [if_neg (by omega)]
  · have e : IntKind.u64.wrap (IntKind.u64.wrap t - IntKind.u64.wrap s) = t - s := by simp only [wrap_u64]; omega
    rw [e]
    simp only [h, decide_false, cond_false]
    by_cases h1 : t - s ≥ 10
    · by_cases h2 : t - s ≤ 10000
      · simp only [h1, h2, decide_true, cond_true]
        refine ⟨fun _ => ?_, fun h => absurd h (by simp)⟩
        rw [wrap_i64_id (z := t - s) (by omega) (by omega), if_pos ⟨trivial, trivial⟩]
        exact ⟨rfl, by omega⟩
      · simp only [h1, h2, decide_true, decide_false, cond_true]
        refine ⟨fun h => absurd h (by simp), fun _ => ?_⟩
        rw [if_neg fun h => h.2]
    · simp only [h1, decide_false, cond_false]
      refine ⟨fun h => absurd h (by simp), fun _ => ?_⟩
      rw [if_neg fun h => h.1]
abbrev StA := Dr × V3 × Int × Unit
def stepPre (p : StA) : Bool := i64? p.1.tick && i64? p.2.2.1
/-- One field more. -/
def stepV (b : Bool) (p : StA) : Dr × Bool :=
  let f := (last3 opsF p.2.1 b).2
  let r := rates opsF (gapT p.2.2.1 p.1.tick) p.1 p.2.1 f
  bif !p.1.on || gapT p.2.2.1 p.1.tick == 0 then (bif f then (Dr.zero, f) else (⟨true, p.2.2.1, p.2.1, V3.zero⟩, f)) else (bif r.2 then (Dr.zero, r.2) else (⟨true, p.2.2.1, p.2.1, r.1⟩, r.2))
theorem doneD_eq (e : TypeId) (d : Dr) (f : Bool) : doneD e d f = some (.val (Cod.enc (bif f then (Dr.zero, f) else (d, f)).1), row e (bif f then (Dr.zero, f) else (d, f)).2) := by cases f <;> rfl
theorem ok59 : SumOk Try.prog 59 (Sc 27 stepPre stepV) := by
  refine Sc_okH (E := { gam := gamN opsF }) gamN_ok (hB := stHints) ?_ 20 fun b p hp => ?_
  · exact stFit
  · obtain ⟨d, u, tk, _⟩ := p
    refine (step59 opsF stPre gapT b d u tk).trans ?_
    simp only [stepPre, Bool.and_eq_true] at hp
    dsimp only
    have hg : gapI tk d.tick 10 = 0 := by unfold gapI; rw [if_neg (by omega)]
    have hpre : ∀ r a c, stPre (.int .i64 tk :: .int .i64 0 :: .int .i64 10 :: a :: c :: .int .i64 d.tick :: r) = true := by
      intro r a c
      simp [stPre, hp.1, hp.2, hg]
    rw [hpre, cond_true]
    simp only [doneD_eq]
    unfold stepV
    dsimp only
    cases d.on <;> cases (gapT tk d.tick == 0) <;> rfl
theorem fadd_right {x v : Int} (h : fadd false x 0 = (v, false)) : v = x := by
  unfold fadd at h
  rw [Int.add_zero] at h
  generalize (!false && (num x && (num 0 && num x))) = t at h
  cases t with
  | true => simp only [cond_true, Prod.mk.injEq] at h; exact h.1.symm
  | false => simp at h
theorem last_eq {u : V3} {b : Bool} (h : (last3 opsF u b).2 = false) : (last3 opsF u b).1 = u := by
  unfold last3 each3 at h ⊢
  simp only [opsF] at h ⊢
  have hs : ∀ x y, fadd true x y = (0, true) := fun _ _ => rfl
  cases b
  · rcases h1 : fadd false u.x 0 with ⟨x, f1⟩
    rw [h1] at h
    cases f1
    · rcases h2 : fadd false u.y 0 with ⟨y, f2⟩
      simp only [h2] at h
      cases f2
      · rcases h3 : fadd false u.z 0 with ⟨z, f3⟩
        simp only [h3] at h
        subst h
        simp only [fadd_right h1, fadd_right h2, fadd_right h3]
      · simp [hs] at h
    · simp [hs] at h
  · simp [hs] at h
theorem rates_bad (t : Int) (d : Dr) (u : V3) : (rates opsF t d u true).2 = true := rfl
theorem vadd_last (u : V3) (b : Bool) : vop fadd b (u, V3.zero, ()) = done3 (last3 opsF u b) := rfl
theorem ok58 : SumOk Try.prog 58 (Sc 25 stepPre stepV) := by
  refine Sc_ok (E := { gam := (133, S0 btV) :: (50, S 25 (vop fadd)) :: gamN opsF }) (.cons ok133 (.cons ok50 gamN_ok)) 20 fun b p hp => ?_
  obtain ⟨d, u, tk, _⟩ := p
  refine (step58 opsF btV (vop fadd) b d u tk).trans ?_
  simp only [stepPre, Bool.and_eq_true] at hp
  obtain ⟨h1, h2⟩ := btV_eq hp.1 hp.2
  dsimp only
  rw [vadd_last]
  simp only [doneD_eq, done3]
  unfold stepV
  dsimp only
  cases hf : (last3 opsF u b).2 with
  | true =>
    simp only [rates_bad, cond_true]
    cases (btV (d.tick, tk, ())).b <;> cases d.on <;> cases (gapT tk d.tick == 0) <;> rfl
  | false =>
    simp only [cond_false, last_eq hf]
    cases hb : (btV (d.tick, tk, ())).b with
    | false =>
      have := h2 hb
      rw [this]
      cases d.on <;> rfl
    | true =>
      obtain ⟨e1, e2⟩ := h1 hb
      rw [e1, show (gapT tk d.tick == 0) = false by simp; exact e2]
      cases d.on <;> rfl
def drb (a b : Dr) : Bool := a.on == b.on && (a.tick == b.tick && ((v3b a.last b.last) && (v3b a.rate b.rate && true)))
theorem law9 (pre : StA → Bool) (p : Bool → StA → Dr × Bool) (on : Bool) (t a0 a1 a2 x0 x1 x2 u0 u1 u2 tk : Int) :
    fnSum Try.prog { gam := [(57, S0 fun (_ : Unit) => true), (58, Sc 25 pre p), (59, Sc 27 pre p)] } [] 20 9 (List.map AV.val [.agg #[.bool on, .int .i64 t, .int .i64 a0, .int .i64 a1, .int .i64 a2, .int .i64 x0, .int .i64 x1, .int .i64 x2], .agg #[.int .i64 u0, .int .i64 u1, .int .i64 u2], .int .i64 tk]) [] =
      let r := p false (⟨on, t, ⟨a0, a1, a2⟩, ⟨x0, x1, x2⟩⟩, ⟨u0, u1, u2⟩, tk, ())
      bif pre (⟨on, t, ⟨a0, a1, a2⟩, ⟨x0, x1, x2⟩⟩, ⟨u0, u1, u2⟩, tk, ()) then
        bif pre (⟨on, t, ⟨a0, a1, a2⟩, ⟨x0, x1, x2⟩⟩, ⟨u0, u1, u2⟩, tk, ()) then
          bif drb r.1 r.1 then say (r.2 == r.2) else sayF else none else none := by kernel_rfl
theorem drb_self (a : Dr) : drb a a = true := by simp [drb, v3b_self]
end Go.Ab
