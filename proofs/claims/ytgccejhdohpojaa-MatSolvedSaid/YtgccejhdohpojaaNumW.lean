/- A part of the proof of 'MatSolved': lemmas, no statement of their own; no condition. -/
import Derived.Test.YtgccejhdohpojaaLvHeavy
/- heavy: what it says. -/
namespace Go.Ab
open Go Go.Proofs
theorem wrap_fit {z : Int} (h1 : -9223372036854775808 ≤ z) (h2 : z < 9223372036854775808) : IntKind.i64.wrap z = z := by rw [wrap_i64]; omega
theorem restI_eq {m : Mx} {i j : Nat} {rest : Int} (hr : 0 ≤ rest ∧ rest ≤ 17592186044416) (h1 : m i j ≤ 1099511627776) (h2 : -1099511627776 ≤ m i j) : restI m i j rest = rest + (if j ≠ i then ab (m i j) else 0) := by
  unfold restI
  by_cases h : i = j
  · subst h
    have e : Nat.beq i i = true := Nat.beq_refl i
    rw [e, cond_true, if_neg (fun c => c rfl), Int.add_zero]
  · have e : Nat.beq i j = false := by
      cases hc : Nat.beq i j with
      | false => rfl
      | true => exact absurd (Nat.eq_of_beq_eq_true hc) h
    rw [e, cond_false, if_pos (show j ≠ i by omega), wrap_fit (z := 0 - m i j) (by omega) (by omega)]
    rcases ab_spec (m i j) with ⟨h3, h4⟩ | ⟨h3, h4⟩
    · rw [if_neg (by omega), h4, wrap_fit (by omega) (by omega)]
    · rw [if_pos (by omega), h4, wrap_fit (by omega) (by omega)]
      omega
/-- A row. -/
structure HvRow (m : Mx) (n i : Nat) : Prop where
  rng : ∀ j, j < n → -1099511627776 ≤ m i j ∧ m i j ≤ 1099511627776
  sym : ∀ j, j < n → m i j = m j i
  dom : sm (fun k => if k ≠ i then ab (m i k) else 0) n + 1073741824 ≤ m i i
theorem hbC_spec {m : Mx} {i : Nat} {K : Int → Bool} : ∀ (r j : Nat) (rest : Int), j + r ≤ 6 → rest = sm (fun k => if k ≠ i then ab (m i k) else 0) j → (0 ≤ rest ∧ rest ≤ 1099511627776 * j) → hbC m i K r j rest = true →
    (∀ t, j ≤ t → t < j + r → (-1099511627776 ≤ m i t ∧ m i t ≤ 1099511627776) ∧ m i t = m t i) ∧ K (sm (fun k => if k ≠ i then ab (m i k) else 0) (j + r)) = true ∧ (0 ≤ sm (fun k => if k ≠ i then ab (m i k) else 0) (j + r) ∧ sm (fun k => if k ≠ i then ab (m i k) else 0) (j + r) ≤ 6597069766656)
  | 0, j, rest, hj, e, hb, h => ⟨fun t h1 h2 => by omega, by rw [Nat.add_zero, ← e]; exact h, by rw [Nat.add_zero, ← e]; omega⟩
  | r + 1, j, rest, hj, e, hb, h => by
    unfold hbC at h
    have c1 : ¬ m i j > 1099511627776 := fun c => by rw [decide_eq_true c, cond_true] at h; cases h
    rw [decide_eq_false c1, cond_false] at h
    have c2 : ¬ m i j < -1099511627776 := fun c => by rw [decide_eq_true c, cond_true] at h; cases h
    rw [decide_eq_false c2, cond_false] at h
    cases c3 : m i j != m j i with
    | true => rw [c3, cond_true] at h; cases h
    | false =>
      rw [c3, cond_false, restI_eq (by omega) (by omega) (by omega)] at h
      have c4 : m i j = m j i := by simpa using c3
      have e' : rest + (if j ≠ i then ab (m i j) else 0) = sm (fun k => if k ≠ i then ab (m i k) else 0) (j + 1) := by rw [sm, e]
      have hb' : 0 ≤ (if j ≠ i then ab (m i j) else 0) ∧ (if j ≠ i then ab (m i j) else 0) ≤ 1099511627776 := by
        by_cases hj' : j ≠ i
        · rw [if_pos hj']
          rcases ab_spec (m i j) with ⟨_, h4⟩ | ⟨_, h4⟩ <;> omega
        · rw [if_neg hj']; omega
      obtain ⟨f1, f2, f3⟩ := hbC_spec r (j + 1) _ (by omega) e' (by omega) h
      have ej : j + 1 + r = j + (r + 1) := by omega
      rw [ej] at f1 f2 f3
      refine ⟨fun t h1 h2 => ?_, f2, f3⟩
      by_cases ht : t = j
      · subst ht; exact ⟨by omega, c4⟩
      · exact f1 t (by omega) h2
theorem hbR_spec {m : Mx} {n : Nat} (hn : n ≤ 6) : ∀ (r i : Nat), i + r ≤ n → hbR m n r i = true → ∀ t, i ≤ t → t < i + r → HvRow m n t
  | 0, i, _, _ => fun t h1 h2 => by omega
  | r + 1, i, hi, h => by
    unfold hbR at h
    obtain ⟨f1, f2, f3⟩ := hbC_spec n 0 0 (by omega) (by rw [sm]) (by omega) h
    rw [Nat.zero_add] at f1 f2 f3
    rw [wrap_fit (by omega) (by omega)] at f2
    have c : ¬ m i i < sm (fun k => if k ≠ i then ab (m i k) else 0) n + 1073741824 := fun c => by rw [decide_eq_true c, cond_true] at f2; cases f2
    rw [decide_eq_false c, cond_false] at f2
    intro t h1 h2
    by_cases ht : t = i
    · subst ht
      exact ⟨fun j hj => (f1 j (by omega) hj).1, fun j hj => (f1 j (by omega) hj).2, by omega⟩
    · exact hbR_spec hn r (i + 1) (by omega) f2 t (by omega) (by omega)
theorem heavy_hv {m : M6} {n : Nat} (hn : n ≤ 6) (h : heavyB (m, n, ()) = true) : Hv m.at n := by
  unfold heavyB at h
  dsimp only at h
  rw [Int.toNat_natCast] at h
  have f := hbR_spec hn n 0 (by omega) h
  exact ⟨fun i j hi hj => (f i (by omega) (by omega)).rng j hj, fun i j hi hj => (f i (by omega) (by omega)).sym j hj, fun r hr => (f r (by omega) (by omega)).dom⟩
end Go.Ab
