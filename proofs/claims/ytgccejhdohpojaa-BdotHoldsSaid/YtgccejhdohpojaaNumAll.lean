/- A part of the proofs: lemmas, no statement of their own; no condition. -/
import Derived.Test.YtgccejhdohpojaaVcAll
/- What the numbers' operations answer: bounds. -/
namespace Go.Ab
open Go Go.Proofs
theorem fnorm_ok {a b c n : Int} (h : fnorm false a b c = (n, false)) : num a = true ∧ num b = true ∧ num c = true ∧ n = isq (a * a + b * b + c * c) ∧ 0 ≤ n ∧ n ≤ 4611686018427387904 := by
  unfold fnorm at h
  cases hb : (false || !nums? [a, b, c]) with
  | true => rw [hb] at h; simp at h
  | false =>
    obtain ⟨_, ha, hb', hc⟩ := nums3 hb
    rw [hb, cond_false] at h
    obtain ⟨a5, a6⟩ := num_sq ha
    obtain ⟨b5, b6⟩ := num_sq hb'
    obtain ⟨c5, c6⟩ := num_sq hc
    have e126 : (2 : Int) ^ 126 = 85070591730234615865843651857942052864 := by decide
    obtain ⟨i0, i1, _, _⟩ := isq_spec (W := a * a + b * b + c * c) (by omega) (by omega)
    by_cases hq : isq (a * a + b * b + c * c) > 4611686018427387904
    · rw [decide_eq_true hq] at h; simp at h
    · rw [decide_eq_false hq, cond_false, Prod.mk.injEq] at h
      exact ⟨ha, hb', hc, h.1.symm, by omega, by omega⟩
theorem fnorm_sq {a b c n : Int} (h : fnorm false a b c = (n, false)) : n * n ≤ a * a + b * b + c * c ∧ a * a + b * b + c * c < (n + 1) * (n + 1) ∧ 0 ≤ a * a + b * b + c * c := by
  obtain ⟨ha, hb, hc, rfl, h0, h1⟩ := fnorm_ok h
  obtain ⟨a5, a6⟩ := num_sq ha
  obtain ⟨b5, b6⟩ := num_sq hb
  obtain ⟨c5, c6⟩ := num_sq hc
  have e126 : (2 : Int) ^ 126 = 85070591730234615865843651857942052864 := by decide
  obtain ⟨i0, i1, i2, i3⟩ := isq_spec (W := a * a + b * b + c * c) (by omega) (by omega)
  exact ⟨i2, i3, by omega⟩
theorem le_of_sq_lt {a n : Int} (h0 : 0 ≤ n) (h : a * a < (n + 1) * (n + 1)) : -n ≤ a ∧ a ≤ n := by
  constructor
  · have : -a < n + 1 := sq_lt_imp (by omega) (by rw [Int.neg_mul_neg]; exact h)
    omega
  · have : a < n + 1 := sq_lt_imp (by omega) h
    omega
theorem sq_nonneg (a : Int) : 0 ≤ a * a := by
  rcases Int.le_total 0 a with h | h
  · exact Int.mul_nonneg h h
  · have := Int.mul_nonneg (a := -a) (b := -a) (by omega) (by omega)
    rwa [Int.neg_mul_neg] at this
theorem fnorm_parts {a b c n : Int} (h : fnorm false a b c = (n, false)) : (-n ≤ a ∧ a ≤ n) ∧ (-n ≤ b ∧ b ≤ n) ∧ (-n ≤ c ∧ c ≤ n) := by
  obtain ⟨_, _, _, _, h0, _⟩ := fnorm_ok h
  obtain ⟨_, h2, _⟩ := fnorm_sq h
  have p := sq_nonneg a
  have q := sq_nonneg b
  have r := sq_nonneg c
  exact ⟨le_of_sq_lt h0 (by omega), le_of_sq_lt h0 (by omega), le_of_sq_lt h0 (by omega)⟩
theorem iabs_le {a n : Int} (h : -n ≤ a ∧ a ≤ n) : iabs a ≤ n := by
  unfold iabs
  by_cases h1 : a < 0
  · simp only [h1, decide_true, cond_true]; omega
  · simp only [h1, decide_false, cond_false]; omega
theorem iabs_nonneg (a : Int) : 0 ≤ iabs a := by
  unfold iabs
  by_cases h1 : a < 0
  · simp only [h1, decide_true, cond_true]; omega
  · simp only [h1, decide_false, cond_false]; omega
theorem iabs_of_nonneg {a : Int} (h : 0 ≤ a) : iabs a = a := by
  unfold iabs
  have h1 : ¬ a < 0 := by omega
  simp only [h1, decide_false, cond_false]
/-- A ratio that fits. -/
def ratio3 (a b c : Int) : Int := bif neg3 a b c then 0 - rnd (iabs a * iabs b) (iabs c) else rnd (iabs a * iabs b) (iabs c)
theorem rnd_spec {N z : Int} (hz : 0 < z) : 2 * N - z ≤ 2 * z * rnd N z ∧ 2 * z * rnd N z ≤ 2 * N + z := by
  have r0 := Int.emod_nonneg N (b := z) (by omega)
  have r1 := Int.emod_lt_of_pos N hz
  have e : N = z * (N / z) + N % z := (Int.mul_ediv_add_emod N z).symm
  unfold rnd
  by_cases h : N % z ≥ z - N % z
  · simp only [h, decide_true, cond_true]
    have : 2 * z * (N / z + 1) = 2 * (z * (N / z)) + 2 * z := by rw [Int.mul_add, Int.mul_one, Int.mul_assoc]
    omega
  · simp only [h, decide_false, cond_false]
    have : 2 * z * (N / z) = 2 * (z * (N / z)) := by rw [Int.mul_assoc]
    omega
theorem rnd_nonneg {N z : Int} (hN : 0 ≤ N) (hz : 0 < z) : 0 ≤ rnd N z := by
  have := Int.ediv_nonneg hN (b := z) (by omega)
  unfold rnd
  cases decide (N % z ≥ z - N % z) <;> simp only [cond_true, cond_false] <;> omega
theorem rnd_le {N z m : Int} (hz : 0 < z) (h : N ≤ z * m) : rnd N z ≤ m := by
  have r0 := Int.emod_nonneg N (b := z) (by omega)
  have r1 := Int.emod_lt_of_pos N hz
  have e : N = z * (N / z) + N % z := (Int.mul_ediv_add_emod N z).symm
  have hq : N / z ≤ m := by
    have : z * (N / z) ≤ z * m := by omega
    exact Int.le_of_mul_le_mul_left this hz
  unfold rnd
  by_cases h1 : N % z ≥ z - N % z
  · simp only [h1, decide_true, cond_true]
    rcases Int.lt_or_le (N / z) m with h2 | h2
    · omega
    · have : N / z = m := by omega
      rw [this] at e
      omega
  · simp only [h1, decide_false, cond_false]
    exact hq
theorem fratio_ok {a b c : Int} (hc : iabs c ≠ 0) (h : iabs a * iabs b ≤ iabs c * 4611686018427387904) : fratio false a b c = (ratio3 a b c, false) := by
  have c0 := iabs_nonneg c
  have hz : 0 < iabs c := by omega
  have hq : iabs a * iabs b / iabs c ≤ 4611686018427387904 := by
    have := Int.ediv_le_ediv hz h
    rwa [Int.mul_ediv_cancel_left _ (by omega)] at this
  have hr := rnd_le hz h
  unfold fratio ratio3
  have e1 : (iabs c == 0) = false := by simp; exact hc
  have e2 : decide (iabs a * iabs b / iabs c > 4611686018427387904) = false := by simp; omega
  have e3 : decide (rnd (iabs a * iabs b) (iabs c) > 4611686018427387904) = false := by simp; omega
  rw [e1, e2, e3]
  rfl
theorem fdiv_small {x n : Int} (hx : num x = true) (hn : num n = true) (h0 : 0 < n) (h : -n ≤ x ∧ x ≤ n) : fdiv false x n = (ratio3 x 1099511627776 n, false) := by
  have e : (false || !nums? [x, n]) = false := by simp [nums?, hx, hn]
  unfold fdiv
  rw [e, cond_false]
  have e1 : iabs n = n := iabs_of_nonneg (by omega)
  have e2 : iabs 1099511627776 = 1099511627776 := rfl
  refine fratio_ok (by rw [e1]; omega) ?_
  rw [e1, e2]
  have := iabs_le h
  omega
end Go.Ab
/- What the numbers' operations answer: how far they are off. -/
namespace Go.Ab
open Go Go.Proofs
theorem ratio3_spec {a b c : Int} (hc : 0 < c) : 2 * (a * b) - c ≤ 2 * c * ratio3 a b c ∧ 2 * c * ratio3 a b c ≤ 2 * (a * b) + c := by
  have hcc : iabs c = c := iabs_of_nonneg (by omega)
  have hc0 : decide (c < 0) = false := by simp; omega
  unfold ratio3 neg3
  rw [hcc, hc0, Bool.xor_false]
  obtain ⟨h1, h2⟩ := rnd_spec (N := iabs a * iabs b) hc
  have hneg : ∀ r : Int, 2 * c * (0 - r) = - (2 * c * r) := fun r => by rw [Int.zero_sub, Int.mul_neg]
  have ia : ∀ x : Int, x < 0 → iabs x = -x := fun x h => by unfold iabs; rw [decide_eq_true h, cond_true, Int.zero_sub]
  by_cases ha : a < 0
  · by_cases hb : b < 0
    · rw [ia a ha, ia b hb, Int.neg_mul_neg] at h1 h2 ⊢
      rw [decide_eq_true ha, decide_eq_true hb]
      exact ⟨h1, h2⟩
    · rw [ia a ha, iabs_of_nonneg (a := b) (by omega), Int.neg_mul] at h1 h2 ⊢
      rw [decide_eq_true ha, decide_eq_false hb]
      show 2 * (a * b) - c ≤ 2 * c * (0 - rnd (-(a * b)) c) ∧ 2 * c * (0 - rnd (-(a * b)) c) ≤ 2 * (a * b) + c
      rw [hneg]
      omega
  · by_cases hb : b < 0
    · rw [iabs_of_nonneg (a := a) (by omega), ia b hb, Int.mul_neg] at h1 h2 ⊢
      rw [decide_eq_false ha, decide_eq_true hb]
      show 2 * (a * b) - c ≤ 2 * c * (0 - rnd (-(a * b)) c) ∧ 2 * c * (0 - rnd (-(a * b)) c) ≤ 2 * (a * b) + c
      rw [hneg]
      omega
    · rw [iabs_of_nonneg (a := a) (by omega), iabs_of_nonneg (a := b) (by omega)] at h1 h2 ⊢
      rw [decide_eq_false ha, decide_eq_false hb]
      exact ⟨h1, h2⟩
theorem fratio_val {a b c v : Int} (h : fratio false a b c = (v, false)) : v = ratio3 a b c ∧ c ≠ 0 := by
  unfold fratio at h
  generalize hc : (iabs c == 0 || decide (iabs a * iabs b / iabs c > 4611686018427387904) || decide (rnd (iabs a * iabs b) (iabs c) > 4611686018427387904)) = t at h
  cases t with
  | true => simp at h
  | false =>
    simp only [Bool.or_eq_false_iff, beq_eq_false_iff_ne] at hc
    rw [cond_false, Prod.mk.injEq] at h
    refine ⟨h.1.symm, fun h0 => hc.1.1 ?_⟩
    rw [h0]; rfl
/-- One, and what it is. -/
def One : Int := 1099511627776
theorem fmul_of {a b v : Int} (h : fmul false a b = (v, false)) : v = ratio3 a b 1099511627776 ∧ num a = true ∧ num b = true := by
  unfold fmul at h
  cases hb : (false || !nums? [a, b]) with
  | true => rw [hb] at h; simp at h
  | false =>
    obtain ⟨_, ha, hb'⟩ := nums2 hb
    rw [hb, cond_false] at h
    exact ⟨(fratio_val h).1, ha, hb'⟩
theorem fdiv_of {a b v : Int} (h : fdiv false a b = (v, false)) : v = ratio3 a 1099511627776 b ∧ num a = true ∧ num b = true ∧ b ≠ 0 := by
  unfold fdiv at h
  cases hb : (false || !nums? [a, b]) with
  | true => rw [hb] at h; simp at h
  | false =>
    obtain ⟨_, ha, hb'⟩ := nums2 hb
    rw [hb, cond_false] at h
    exact ⟨(fratio_val h).1, ha, hb', (fratio_val h).2⟩
theorem fpart_of {a p q v : Int} (h : fpart false a p q = (v, false)) : v = ratio3 a p q ∧ num a = true ∧ num p = true ∧ num q = true ∧ q ≠ 0 := by
  unfold fpart at h
  cases hb : (false || !nums? [a, p, q]) with
  | true => rw [hb] at h; simp at h
  | false =>
    obtain ⟨_, ha, hb', hq⟩ := nums3 hb
    rw [hb, cond_false] at h
    exact ⟨(fratio_val h).1, ha, hb', hq, (fratio_val h).2⟩
theorem fmul_spec {a b v : Int} (h : fmul false a b = (v, false)) : 2 * (a * b) - 1099511627776 ≤ 2199023255552 * v ∧ 2199023255552 * v ≤ 2 * (a * b) + 1099511627776 := by
  have := ratio3_spec (a := a) (b := b) (c := 1099511627776) (by omega)
  rw [← (fmul_of h).1] at this
  exact this
theorem fdiv_spec {a b v : Int} (hb : 0 < b) (h : fdiv false a b = (v, false)) : 2199023255552 * a - b ≤ 2 * b * v ∧ 2 * b * v ≤ 2199023255552 * a + b := by
  have := ratio3_spec (a := a) (b := 1099511627776) (c := b) hb
  rw [← (fdiv_of h).1] at this
  omega
theorem fadd_of {a b v : Int} (h : fadd false a b = (v, false)) : v = a + b ∧ num a = true ∧ num b = true ∧ num v = true := by
  unfold fadd at h
  generalize hc : (!false && (num a && (num b && num (a + b)))) = t at h
  cases t with
  | true =>
    simp only [Bool.not_false, Bool.true_and, Bool.and_eq_true] at hc
    rw [cond_true, Prod.mk.injEq] at h
    obtain ⟨rfl, _⟩ := h
    exact ⟨rfl, hc.1, hc.2.1, hc.2.2⟩
  | false => simp at h
theorem fsub_of {a b v : Int} (h : fsub false a b = (v, false)) : v = a - b ∧ num a = true ∧ num b = true ∧ num v = true := by
  unfold fsub at h
  generalize hc : (!false && (num a && (num b && num (a - b)))) = t at h
  cases t with
  | true =>
    simp only [Bool.not_false, Bool.true_and, Bool.and_eq_true] at hc
    rw [cond_true, Prod.mk.injEq] at h
    obtain ⟨rfl, _⟩ := h
    exact ⟨rfl, hc.1, hc.2.1, hc.2.2⟩
  | false => simp at h
theorem fadd_fine {a b : Int} (ha : num a = true) (hb : num b = true) (h : num (a + b) = true) : fadd false a b = (a + b, false) := by
  unfold fadd; rw [ha, hb, h]; rfl
theorem fsub_fine {a b : Int} (ha : num a = true) (hb : num b = true) (h : num (a - b) = true) : fsub false a b = (a - b, false) := by
  unfold fsub; rw [ha, hb, h]; rfl
/-- A product of small numbers fits. -/
theorem fmul_fine {a b : Int} (ha : num a = true) (hb : num b = true) (h : iabs a * iabs b ≤ 5070602400912917605986812821504) : fmul false a b = (ratio3 a b 1099511627776, false) := by
  have e : (false || !nums? [a, b]) = false := by simp [nums?, ha, hb]
  unfold fmul
  rw [e, cond_false]
  refine fratio_ok (by decide) ?_
  have : iabs 1099511627776 = 1099511627776 := rfl
  rw [this]
  omega
end Go.Ab
/- Units of vectors: how long they are. -/
namespace Go.Ab
open Go Go.Proofs
theorem num_small {x : Int} (h1 : -4611686018427387904 ≤ x) (h2 : x ≤ 4611686018427387904) : num x = true := num_iff.2 ⟨h1, h2⟩
/-- A product of numbers up to 2^51. -/
theorem mul_small {a b : Int} (ha : -2251799813685248 ≤ a ∧ a ≤ 2251799813685248) (hb : -2251799813685248 ≤ b ∧ b ≤ 2251799813685248) :
    ∃ v, fmul false a b = (v, false) ∧ 2 * (a * b) - 1099511627776 ≤ 2199023255552 * v ∧ 2199023255552 * v ≤ 2 * (a * b) + 1099511627776 := by
  have h : fmul false a b = (ratio3 a b 1099511627776, false) := by
    refine fmul_fine (num_small (by omega) (by omega)) (num_small (by omega) (by omega)) ?_
    have h1 := iabs_le (n := 2251799813685248) ha
    have h2 := iabs_le (n := 2251799813685248) hb
    have h3 := iabs_nonneg a
    have h4 := iabs_nonneg b
    refine Int.le_trans (Int.le_trans (Int.mul_le_mul_of_nonneg_right h1 h4) (Int.mul_le_mul_of_nonneg_left h2 (by omega))) (by omega)
  exact ⟨_, h, fmul_spec h⟩
theorem le_of_mul2 {n x y : Int} (hn : 0 < n) (h : n * x ≤ n * y) : x ≤ y := Int.le_of_mul_le_mul_left h hn
/-- A part of a unit. -/
theorem div_unit {x n : Int} (hx : num x = true) (h0 : 0 < n) (hn : num n = true) (h : -n ≤ x ∧ x ≤ n) :
    ∃ v, fdiv false x n = (v, false) ∧ (2199023255552 * x - n ≤ 2 * n * v ∧ 2 * n * v ≤ 2199023255552 * x + n) ∧ -1099511627776 ≤ v ∧ v ≤ 1099511627776 := by
  have e := fdiv_small hx hn h0 h
  have s := fdiv_spec h0 e
  generalize ratio3 x 1099511627776 n = v at *
  refine ⟨v, e, s, ?_, ?_⟩
  · have : n * (-2199023255553) ≤ n * (2 * v) := by
      have : 2 * n * v = n * (2 * v) := by grind
      omega
    have := le_of_mul2 h0 this
    omega
  · have : n * (2 * v) ≤ n * 2199023255553 := by
      have : 2 * n * v = n * (2 * v) := by grind
      omega
    have := le_of_mul2 h0 this
    omega
/-- What a unit's parts are off. -/
structure Unit3 (a u : V3) (n : Int) : Prop where
  x : 2199023255552 * a.x - n ≤ 2 * n * u.x ∧ 2 * n * u.x ≤ 2199023255552 * a.x + n
  y : 2199023255552 * a.y - n ≤ 2 * n * u.y ∧ 2 * n * u.y ≤ 2199023255552 * a.y + n
  z : 2199023255552 * a.z - n ≤ 2 * n * u.z ∧ 2 * n * u.z ≤ 2199023255552 * a.z + n
  bx : -1099511627776 ≤ u.x ∧ u.x ≤ 1099511627776
  by' : -1099511627776 ≤ u.y ∧ u.y ≤ 1099511627776
  bz : -1099511627776 ≤ u.z ∧ u.z ≤ 1099511627776
theorem vunit_ok {a : V3} {n : Int} (h : vnorm opsF false (a, ()) = (n, false)) (hn : 1048576 ≤ n) : ∃ u, vunit opsF false (a, ()) = (u, false) ∧ Unit3 a u n := by
  have h' : fnorm false a.x a.y a.z = (n, false) := h
  obtain ⟨n1, n2, n3, _, n4, n5⟩ := fnorm_ok h'
  obtain ⟨p1, p2, p3⟩ := fnorm_parts h'
  have hnn : num n = true := num_small (by omega) n5
  obtain ⟨x, ex, sx, bx⟩ := div_unit n1 (by omega) hnn p1
  obtain ⟨y, ey, sy, by'⟩ := div_unit n2 (by omega) hnn p2
  obtain ⟨z, ez, sz, bz⟩ := div_unit n3 (by omega) hnn p3
  refine ⟨⟨x, y, z⟩, ?_, ⟨sx, sy, sz, bx, by', bz⟩⟩
  unfold vunit
  rw [h]
  dsimp only
  rw [decide_eq_false (p := n < 1048576) (by omega), cond_false]
  unfold vunitN vunit0 each3 done3
  simp only [opsF]
  rw [ex]
  dsimp only
  rw [ey]
  dsimp only
  rw [ez]
  rfl
end Go.Ab
/- Units of vectors: how long they are, in numbers. -/
namespace Go.Ab
open Go Go.Proofs
theorem mul_bound {x y K L : Int} (hx : -K ≤ x ∧ x ≤ K) (hy : -L ≤ y ∧ y ≤ L) : -(K * L) ≤ x * y ∧ x * y ≤ K * L := by
  have h1 : 0 ≤ (K - x) * (L + y) := Int.mul_nonneg (by omega) (by omega)
  have h2 : 0 ≤ (K + x) * (L - y) := Int.mul_nonneg (by omega) (by omega)
  have h3 : 0 ≤ (K - x) * (L - y) := Int.mul_nonneg (by omega) (by omega)
  have h4 : 0 ≤ (K + x) * (L + y) := Int.mul_nonneg (by omega) (by omega)
  constructor <;> grind
theorem unit_sq {a u : V3} {n : Int} (hu : Unit3 a u n) (pa : (-n ≤ a.x ∧ a.x ≤ n) ∧ (-n ≤ a.y ∧ a.y ≤ n) ∧ (-n ≤ a.z ∧ a.z ≤ n)) :
    n * n * (4 * (u.x * u.x + u.y * u.y + u.z * u.z)) ≤ 4835703278458516698824704 * (a.x * a.x + a.y * a.y + a.z * a.z) + n * n * 13194139533315 ∧
    4835703278458516698824704 * (a.x * a.x + a.y * a.y + a.z * a.z) - n * n * 13194139533312 ≤ n * n * (4 * (u.x * u.x + u.y * u.y + u.z * u.z)) := by
  obtain ⟨⟨x1, x2⟩, ⟨y1, y2⟩, ⟨z1, z2⟩, _, _, _⟩ := hu
  obtain ⟨pa1, pa2, pa3⟩ := pa
  obtain ⟨X, hX⟩ : ∃ X, X = 2 * n * u.x - 2199023255552 * a.x := ⟨_, rfl⟩
  obtain ⟨Y, hY⟩ : ∃ Y, Y = 2 * n * u.y - 2199023255552 * a.y := ⟨_, rfl⟩
  obtain ⟨Z, hZ⟩ : ∃ Z, Z = 2 * n * u.z - 2199023255552 * a.z := ⟨_, rfl⟩
  have bX : -n ≤ X ∧ X ≤ n := by omega
  have bY : -n ≤ Y ∧ Y ≤ n := by omega
  have bZ : -n ≤ Z ∧ Z ≤ n := by omega
  have m1 := mul_bound pa1 bX
  have m2 := mul_bound pa2 bY
  have m3 := mul_bound pa3 bZ
  have q1 := mul_bound bX bX
  have q2 := mul_bound bY bY
  have q3 := mul_bound bZ bZ
  have s1 := sq_nonneg X
  have s2 := sq_nonneg Y
  have s3 := sq_nonneg Z
  have key : n * n * (4 * (u.x * u.x + u.y * u.y + u.z * u.z)) = 4835703278458516698824704 * (a.x * a.x + a.y * a.y + a.z * a.z) + 4398046511104 * (a.x * X + a.y * Y + a.z * Z) + (X * X + Y * Y + Z * Z) := by
    have e1 : n * n * (4 * (u.x * u.x)) = (2199023255552 * a.x + X) * (2199023255552 * a.x + X) := by
      have : 2199023255552 * a.x + X = 2 * n * u.x := by omega
      rw [this]; grind
    have e2 : n * n * (4 * (u.y * u.y)) = (2199023255552 * a.y + Y) * (2199023255552 * a.y + Y) := by
      have : 2199023255552 * a.y + Y = 2 * n * u.y := by omega
      rw [this]; grind
    have e3 : n * n * (4 * (u.z * u.z)) = (2199023255552 * a.z + Z) * (2199023255552 * a.z + Z) := by
      have : 2199023255552 * a.z + Z = 2 * n * u.z := by omega
      rw [this]; grind
    grind
  rw [key]
  generalize n * n = P at *
  omega
/-- The square of a unit's length. -/
theorem unit_near {a u : V3} {n : Int} (h : fnorm false a.x a.y a.z = (n, false)) (hu : Unit3 a u n) (hn : 0 < n) (K : Int) (hK : 1208925819614629174706176 * (2 * n + 1) ≤ n * n * K) :
    4 * (u.x * u.x + u.y * u.y + u.z * u.z) ≤ 4835703278458516698824704 + 4 * K + 13194139533315 ∧ 4835703278458516698824704 - 13194139533312 ≤ 4 * (u.x * u.x + u.y * u.y + u.z * u.z) := by
  obtain ⟨h1, h2, _⟩ := fnorm_sq h
  obtain ⟨b1, b2⟩ := unit_sq hu (fnorm_parts h)
  have hp : 0 < n * n := Int.mul_pos hn hn
  have e : (n + 1) * (n + 1) = n * n + (2 * n + 1) := by grind
  rw [e] at h2
  generalize a.x * a.x + a.y * a.y + a.z * a.z = A at *
  generalize u.x * u.x + u.y * u.y + u.z * u.z = U at *
  constructor
  · refine le_of_mul2 hp ?_
    have : n * n * (4835703278458516698824704 + 4 * K + 13194139533315) = 4835703278458516698824704 * (n * n) + 4 * (n * n * K) + n * n * 13194139533315 := by grind
    rw [this]
    omega
  · refine le_of_mul2 hp ?_
    have : n * n * (4835703278458516698824704 - 13194139533312) = 4835703278458516698824704 * (n * n) - n * n * 13194139533312 := by grind
    rw [this]
    omega
end Go.Ab
