/- A part of the proof of 'ClockDaily': lemmas, no statement of their own; no condition. -/
import Derived.Test.YtgccejhdohpojaaLvClock
import Derived.Test.YtgccejhdohpojaaNumAll
/- ClockDaily: a day later the Earth has turned once, and as much more as it goes on in a day. -/
namespace Go.Ab
open Go Go.Proofs
theorem law8 (tu : Bool → Int × Unit → Int × Bool) (mo : Bool → Int → Int → Int × Bool) (t : Int) :
    fnSum Try.prog { gam := [(37, S0 fun (_ : Unit) => true), (54, S 25 tu), (56, S 25 (op2 mo))] } [] 20 8 (List.map AV.val [.int .i64 t]) [] =
      bif decide (t < 0) then say true else bif decide (t > 157680000000) then say true else
        let a := tu false (t, ())
        let b := tu a.2 (IntKind.i64.wrap (t + 86400000), ())
        let d := mo b.2 (IntKind.i64.wrap (b.1 - a.1)) 6908435304716
        bif !d.2 then bif decide (d.1 ≥ 18914669616) then say (decide (d.1 ≤ 18914669624)) else sayF else sayF := by kernel_rfl
theorem rnd_shift {N z k : Int} (hz : 0 < z) : rnd (N + z * k) z = rnd N z + k := by
  unfold rnd
  rw [Int.add_mul_emod_self_left, Int.add_mul_ediv_left _ _ (by omega)]
  cases decide (N % z ≥ z - N % z) <;> simp only [cond_true, cond_false] <;> omega
theorem ratio3_pos {a b c : Int} (ha : 0 ≤ a) (hb : 0 ≤ b) (hc : 0 ≤ c) : ratio3 a b c = rnd (a * b) c := by
  unfold ratio3 neg3
  rw [iabs_of_nonneg ha, iabs_of_nonneg hb, iabs_of_nonneg hc, decide_eq_false (p := a < 0) (by omega), decide_eq_false (p := b < 0) (by omega), decide_eq_false (p := c < 0) (by omega)]
  rfl
theorem fpart_fine {a p q : Int} (ha : num a = true) (hp : num p = true) (hq : num q = true) (a0 : 0 ≤ a) (p0 : 0 ≤ p) (q0 : 0 < q) (h : a * p ≤ q * 4611686018427387904) : fpart false a p q = (rnd (a * p) q, false) := by
  have e : (false || !nums? [a, p, q]) = false := by simp [nums?, ha, hp, hq]
  unfold fpart
  rw [e, cond_false, ← ratio3_pos a0 p0 (by omega)]
  refine fratio_ok ?_ ?_
  · rw [iabs_of_nonneg (by omega)]; omega
  · rw [iabs_of_nonneg a0, iabs_of_nonneg p0, iabs_of_nonneg (by omega)]; exact h
/-- How far it has turned. -/
def turned0 (t : Int) : Int := 5399947124839 + rnd (6908435304716 * (t % 86400000)) 86400000 + rnd (18914669620 * rnd (1099511627776 * t) 86400000) 1099511627776
theorem turn_val {t : Int} (h0 : 0 ≤ t) (h1 : t ≤ 157766400000) : vturn opsF (vdays opsF) false (t, ()) = (turned0 t % 6908435304716, false) ∧ 0 ≤ turned0 t ∧ turned0 t ≤ 100000000000000 := by
  have e0 : isTick t = true := by unfold isTick; rw [decide_eq_true h0, cond_true, decide_eq_true h1]
  have hd : fpart false 1099511627776 t 86400000 = (rnd (1099511627776 * t) 86400000, false) := fpart_fine (by decide) (num_iff.2 (by omega)) (by decide) (by decide) h0 (by decide) (by omega)
  have d0 := rnd_nonneg (N := 1099511627776 * t) (z := 86400000) (by omega) (by omega)
  have d1 : rnd (1099511627776 * t) 86400000 ≤ 2007708232318976 := rnd_le (by omega) (by omega)
  have hm : t.tmod 86400000 = t % 86400000 := Int.tmod_eq_emod_of_nonneg h0
  have m0 : 0 ≤ t % 86400000 := by omega
  have m1 : t % 86400000 < 86400000 := by omega
  have hn : fpart false 6908435304716 (t % 86400000) 86400000 = (rnd (6908435304716 * (t % 86400000)) 86400000, false) := fpart_fine (by decide) (num_iff.2 (by omega)) (by decide) (by decide) m0 (by decide) (by omega)
  have n0 := rnd_nonneg (N := 6908435304716 * (t % 86400000)) (z := 86400000) (by omega) (by omega)
  have n1 : rnd (6908435304716 * (t % 86400000)) 86400000 ≤ 6908435304716 := rnd_le (by omega) (by omega)
  have hv : vturn opsF (vdays opsF) false (t, ()) = turnAt opsF t (rnd (1099511627776 * t) 86400000) false := by
    show turnAt opsF t (dayF opsF t (bif !isTick t then true else false)).1 (dayF opsF t (bif !isTick t then true else false)).2 = _
    rw [e0]
    show turnAt opsF t (fpart false 1099511627776 t 86400000).1 (fpart false 1099511627776 t 86400000).2 = _
    rw [hd]
  generalize hD : rnd (1099511627776 * t) 86400000 = D at *
  have hmul : fmul false 18914669620 D = (rnd (18914669620 * D) 1099511627776, false) := by
    rw [← ratio3_pos (by decide) d0 (by decide)]
    refine fmul_fine (by decide) (num_iff.2 (by omega)) ?_
    rw [iabs_of_nonneg (by decide), iabs_of_nonneg d0]
    omega
  have k0 := rnd_nonneg (N := 18914669620 * D) (z := 1099511627776) (by omega) (by omega)
  have k1 : rnd (18914669620 * D) 1099511627776 ≤ 40000000000000 := rnd_le (by omega) (by omega)
  rw [hv]
  unfold turned0
  rw [hD]
  unfold turnAt
  simp only [opsF]
  rw [hm, hn]
  generalize rnd (6908435304716 * (t % 86400000)) 86400000 = n at *
  generalize rnd (18914669620 * D) 1099511627776 = k at *
  dsimp only
  rw [fadd_fine (a := 5399947124839) (b := n) (by decide) (num_iff.2 (by omega)) (num_iff.2 (by omega))]
  dsimp only
  rw [hmul]
  dsimp only
  rw [fadd_fine (a := 5399947124839 + n) (b := k) (num_iff.2 (by omega)) (num_iff.2 (by omega)) (num_iff.2 (by omega))]
  dsimp only
  refine ⟨?_, by omega, by omega⟩
  unfold fmod
  have hnum : num (5399947124839 + n + k) = true := num_iff.2 (by omega)
  have hnum2 : num 6908435304716 = true := by decide
  have e : (false || !nums? [5399947124839 + n + k, 6908435304716]) = false := by simp [nums?, hnum, hnum2]
  rw [e]
  rfl
theorem turn_day {t : Int} : turned0 (t + 86400000) = turned0 t + 18914669620 := by
  unfold turned0
  have e1 : (t + 86400000) % 86400000 = t % 86400000 := by omega
  have e2 : rnd (1099511627776 * (t + 86400000)) 86400000 = rnd (1099511627776 * t) 86400000 + 1099511627776 := by
    rw [show 1099511627776 * (t + 86400000) = 1099511627776 * t + 86400000 * 1099511627776 by omega]
    exact rnd_shift (by omega)
  rw [e1, e2, show 18914669620 * (rnd (1099511627776 * t) 86400000 + 1099511627776) = 18914669620 * rnd (1099511627776 * t) 86400000 + 1099511627776 * 18914669620 by omega, rnd_shift (by omega)]
  omega
theorem ClockDaily_calls (t : Int) (w : World) : Calls Try.prog 8 #[.int .i64 t] w fun e w' => e = .returned (.bool true) ∧ RowKit.Below w.heap.size w w' := by
  have hG : GamOk Try.prog [(37, S0 fun (_ : Unit) => true), (54, S 25 (vturn opsF (vdays opsF))), (56, S 25 (op2 fmod))] := .cons ok37 (.cons ok54 (.cons ok56 .nil))
  refine calls_of_sum (E := { gam := [(37, S0 fun (_ : Unit) => true), (54, S 25 (vturn opsF (vdays opsF))), (56, S 25 (op2 fmod))] }) hG (d := 20) (f := 8) (vals := [.int .i64 t]) ?_ w
  rw [law8]
  by_cases h0 : t < 0
  · simp only [h0, decide_true, cond_true, say]
  by_cases h1 : t > 157680000000
  · simp only [h0, h1, decide_true, decide_false, cond_true, cond_false, say]
  simp only [h0, h1, decide_false, cond_false]
  obtain ⟨a1, a2, a3⟩ := turn_val (t := t) (by omega) (by omega)
  obtain ⟨b1, b2, b3⟩ := turn_val (t := t + 86400000) (by omega) (by omega)
  rw [turn_day] at b1
  rw [wrap_i64_id (z := t + 86400000) (by omega) (by omega), a1]
  dsimp only
  rw [b1]
  dsimp only
  generalize turned0 t = s at *
  have hd : fmod false (IntKind.i64.wrap ((s + 18914669620) % 6908435304716 - s % 6908435304716)) 6908435304716 = (18914669620, false) := by
    rw [wrap_i64_id (by omega) (by omega)]
    unfold fmod
    have hnum : num ((s + 18914669620) % 6908435304716 - s % 6908435304716) = true := num_iff.2 (by omega)
    have hnum2 : num 6908435304716 = true := by decide
    have e : (false || !nums? [(s + 18914669620) % 6908435304716 - s % 6908435304716, 6908435304716]) = false := by simp [nums?, hnum, hnum2]
    rw [e]
    show ((((s + 18914669620) % 6908435304716 - s % 6908435304716) % 6908435304716, false) : Int × Bool) = _
    congr 1
    omega
  rw [hd]
  rfl
end Go.Ab
