/- A part of the proof of 'BdotAgainst': lemmas, no statement of their own; no condition. -/
import Derived.Test.YtgccejhdohpojaaBdA
import Derived.Test.YtgccejhdohpojaaNumAll
/- BdotAgainst: each part of a dipole is a fifth at most, and never of the sign of its part of the Rate. -/
namespace Go.Ab
open Go Go.Proofs
def agK (m r : Int) (K : Option (AV × List Con)) : Option (AV × List Con) :=
  bif decide (m > 219902325555) then sayF else bif decide (m < -219902325555) then sayF else
    bif decide (m > 0) then (bif decide (r > 0) then sayF else (bif decide (m < 0) then (bif decide (r < 0) then sayF else K) else K)) else (bif decide (m < 0) then (bif decide (r < 0) then sayF else K) else K)
theorem law11 (p : Bool → Dr × Unit → V3 × Bool) (on : Bool) (t a0 a1 a2 x0 x1 x2 : Int) :
    fnSum Try.prog { gam := [(57, S0 fun (_ : Unit) => true), (60, S 25 p)] } [] 20 11 (List.map AV.val [.agg #[.bool on, .int .i64 t, .int .i64 a0, .int .i64 a1, .int .i64 a2, .int .i64 x0, .int .i64 x1, .int .i64 x2]]) [] =
      let r := p false (⟨on, t, ⟨a0, a1, a2⟩, ⟨x0, x1, x2⟩⟩, ())
      agK r.1.x x0 (agK r.1.y x1 (agK r.1.z x2 (bif !r.2 then say true else say (v3b r.1 V3.zero)))) := by kernel_rfl
structure Ag (m r : Int) : Prop where
  le : m ≤ 219902325555
  ge : -219902325555 ≤ m
  pos : 0 < m → r < 0
  neg : m < 0 → 0 ≤ r
theorem agK_ok {m r : Int} (h : Ag m r) (K : Option (AV × List Con)) : agK m r K = K := by
  obtain ⟨h1, h2, h3, h4⟩ := h
  unfold agK
  rw [decide_eq_false (p := m > 219902325555) (by omega), decide_eq_false (p := m < -219902325555) (by omega)]
  simp only [cond_false]
  by_cases hp : m > 0
  · have := h3 hp
    rw [decide_eq_true hp, decide_eq_false (p := r > 0) (by omega), decide_eq_false (p := m < 0) (by omega)]
    rfl
  · rw [decide_eq_false hp]
    by_cases hn : m < 0
    · have := h4 hn
      rw [decide_eq_true hn, decide_eq_false (p := r < 0) (by omega)]
      rfl
    · rw [decide_eq_false hn]
      rfl
theorem ag_zero (r : Int) : Ag 0 r := ⟨by omega, by omega, by omega, by omega⟩
theorem ag_clip {v r : Int} (hp : 0 < v → r < 0) (hn : v < 0 → 0 ≤ r) : Ag (clip v) r := by
  unfold clip
  by_cases h1 : (-219902325555 : Int) > v
  · rw [if_pos h1, if_neg (by omega)]
    exact ⟨by omega, by omega, by omega, fun _ => hn (by omega)⟩
  · rw [if_neg h1]
    by_cases h2 : (219902325555 : Int) < v
    · rw [if_pos h2]
      exact ⟨by omega, by omega, fun _ => hp (by omega), by omega⟩
    · rw [if_neg h2]
      exact ⟨by omega, by omega, hp, hn⟩
theorem mul_ag {r v : Int} (h : fmul false r (-274877906944) = (v, false)) : Ag (clip v) r := by
  have hs := (fmul_of h).1
  have n0 : 0 ≤ rnd (iabs r * iabs (-274877906944)) (iabs 1099511627776) := rnd_nonneg (Int.mul_nonneg (iabs_nonneg r) (by decide)) (by decide)
  refine ag_clip (fun hv => ?_) (fun hv => ?_)
  · rcases Int.lt_or_le r 0 with h0 | h0
    · exact h0
    · exfalso
      unfold ratio3 neg3 at hs
      rw [decide_eq_false (p := r < 0) (by omega)] at hs
      have : v = 0 - rnd (iabs r * iabs (-274877906944)) (iabs 1099511627776) := hs
      omega
  · rcases Int.lt_or_le r 0 with h0 | h0
    · exfalso
      unfold ratio3 neg3 at hs
      rw [decide_eq_true h0] at hs
      have : v = rnd (iabs r * iabs (-274877906944)) (iabs 1099511627776) := hs
      omega
    · exact h0
theorem dip_ag {r : V3} (h : (dip0 opsF r false).2 = false) : Ag (dip1 opsF r false).x r.x ∧ Ag (dip1 opsF r false).y r.y ∧ Ag (dip1 opsF r false).z r.z := by
  unfold dip1
  unfold dip0 each3 at h ⊢
  simp only [opsF] at h ⊢
  have hs : ∀ x y, fmul true x y = (0, true) := fun _ _ => rfl
  rcases h1 : fmul false r.x (-274877906944) with ⟨x, f1⟩
  rw [h1] at h
  cases f1
  · rcases h2 : fmul false r.y (-274877906944) with ⟨y, f2⟩
    simp only [h2] at h
    cases f2
    · rcases h3 : fmul false r.z (-274877906944) with ⟨z, f3⟩
      simp only [h3] at h
      subst h
      exact ⟨mul_ag h1, mul_ag h2, mul_ag h3⟩
    · simp [hs] at h
  · simp [hs] at h
theorem dipole_ag (d : Dr) : (Ag (dipole opsF false (d, ())).1.x d.rate.x ∧ Ag (dipole opsF false (d, ())).1.y d.rate.y ∧ Ag (dipole opsF false (d, ())).1.z d.rate.z) ∧ ((dipole opsF false (d, ())).2 = true → (dipole opsF false (d, ())).1 = V3.zero) := by
  unfold dipole
  dsimp only
  have hz : Ag V3.zero.x d.rate.x ∧ Ag V3.zero.y d.rate.y ∧ Ag V3.zero.z d.rate.z := ⟨ag_zero _, ag_zero _, ag_zero _⟩
  cases d.on
  · exact ⟨hz, fun h => by cases h⟩
  · simp only [Bool.not_true, cond_false]
    cases h : (dip0 opsF d.rate false).2 with
    | true => exact ⟨hz, fun _ => rfl⟩
    | false => exact ⟨dip_ag h, fun h => by cases h⟩
theorem BdotAgainst_calls (on : Bool) (t a0 a1 a2 x0 x1 x2 : Int) (w : World) :
    Calls Try.prog 11 #[.agg #[.bool on, .int .i64 t, .int .i64 a0, .int .i64 a1, .int .i64 a2, .int .i64 x0, .int .i64 x1, .int .i64 x2]] w fun e w' => e = .returned (.bool true) ∧ RowKit.Below w.heap.size w w' := by
  have hG : GamOk Try.prog [(57, S0 fun (_ : Unit) => true), (60, S 25 (dipole opsF))] := .cons ok57 (.cons ok60 .nil)
  refine calls_of_sum (E := { gam := [(57, S0 fun (_ : Unit) => true), (60, S 25 (dipole opsF))] }) hG (d := 20) (f := 11) (vals := [.agg #[.bool on, .int .i64 t, .int .i64 a0, .int .i64 a1, .int .i64 a2, .int .i64 x0, .int .i64 x1, .int .i64 x2]]) ?_ w
  rw [law11]
  dsimp only
  obtain ⟨⟨h1, h2, h3⟩, h4⟩ := dipole_ag ⟨on, t, ⟨a0, a1, a2⟩, ⟨x0, x1, x2⟩⟩
  rw [agK_ok h1, agK_ok h2, agK_ok h3]
  cases hb : (dipole opsF false (⟨on, t, ⟨a0, a1, a2⟩, ⟨x0, x1, x2⟩⟩, ())).2 with
  | false => rfl
  | true => rw [h4 hb, v3b_self]; rfl
end Go.Ab
