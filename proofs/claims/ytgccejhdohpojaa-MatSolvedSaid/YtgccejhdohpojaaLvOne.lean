/- A part of the proof of 'MatSolved': lemmas, no statement of their own; no condition. -/
import Derived.Test.YtgccejhdohpojaaNumAll
/- VecOne: a unit's length is 1. -/
namespace Go.Ab
open Go Go.Proofs
theorem law15 (nm : Bool → V3 × Unit → Int × Bool) (un : Bool → V3 × Unit → V3 × Bool) (x0 x1 x2 : Int) :
    fnSum Try.prog { gam := [(42, S0 fun (_ : Unit) => true), (66, S 25 nm), (68, S 25 un)] } [] 20 15 (List.map AV.val [.agg #[.int .i64 x0, .int .i64 x1, .int .i64 x2]]) [] =
      let n := nm false (⟨x0, x1, x2⟩, ())
      bif n.2 then say true else bif decide (n.1 < 1048576) then say true else
        let u := un n.2 (⟨x0, x1, x2⟩, ())
        let m := nm u.2 (u.1, ())
        let d := IntKind.i64.wrap (m.1 - 1099511627776)
        bif m.2 then sayF else bif decide (n.1 ≥ 1099511627776) then (bif decide (d ≤ 8) then say (decide (d ≥ -8)) else sayF) else (bif decide (d ≤ 4194304) then say (decide (d ≥ -4194304)) else sayF) := by kernel_rfl
theorem norm_of {u : V3} (hx : -1099511627776 ≤ u.x ∧ u.x ≤ 1099511627776) (hy : -1099511627776 ≤ u.y ∧ u.y ≤ 1099511627776) (hz : -1099511627776 ≤ u.z ∧ u.z ≤ 1099511627776) :
    ∃ r, fnorm false u.x u.y u.z = (r, false) ∧ 0 ≤ r ∧ r * r ≤ u.x * u.x + u.y * u.y + u.z * u.z ∧ u.x * u.x + u.y * u.y + u.z * u.z < (r + 1) * (r + 1) := by
  have q1 := mul_bound hx hx
  have q2 := mul_bound hy hy
  have q3 := mul_bound hz hz
  have s1 := sq_nonneg u.x
  have s2 := sq_nonneg u.y
  have s3 := sq_nonneg u.z
  have e126 : (2 : Int) ^ 126 = 85070591730234615865843651857942052864 := by decide
  obtain ⟨i0, i1, i2, i3⟩ := isq_spec (W := u.x * u.x + u.y * u.y + u.z * u.z) (by omega) (by omega)
  refine ⟨isq (u.x * u.x + u.y * u.y + u.z * u.z), ?_, i0, i2, i3⟩
  have hle : isq (u.x * u.x + u.y * u.y + u.z * u.z) ≤ 4611686018427387904 := by
    have : isq (u.x * u.x + u.y * u.y + u.z * u.z) < 4611686018427387904 := sq_lt_imp (by omega) (by omega)
    omega
  unfold fnorm
  have e : (false || !nums? [u.x, u.y, u.z]) = false := by simp [nums?, num_small (x := u.x) (by omega) (by omega), num_small (x := u.y) (by omega) (by omega), num_small (x := u.z) (by omega) (by omega)]
  rw [e, cond_false, decide_eq_false (p := isq (u.x * u.x + u.y * u.y + u.z * u.z) > 4611686018427387904) (by omega)]
  rfl
theorem VecOne_calls (x0 x1 x2 : Int) (w : World) :
    Calls Try.prog 15 #[.agg #[.int .i64 x0, .int .i64 x1, .int .i64 x2]] w fun e w' => e = .returned (.bool true) ∧ RowKit.Below w.heap.size w w' := by
  have hG : GamOk Try.prog [(42, S0 fun (_ : Unit) => true), (66, S 25 (vnorm opsF)), (68, S 25 (vunit opsF))] := .cons ok42 (.cons ok66 (.cons ok68 .nil))
  refine calls_of_sum (E := { gam := [(42, S0 fun (_ : Unit) => true), (66, S 25 (vnorm opsF)), (68, S 25 (vunit opsF))] }) hG (d := 20) (f := 15) (vals := [.agg #[.int .i64 x0, .int .i64 x1, .int .i64 x2]]) ?_ w
  rw [law15]
  dsimp only
  rcases hn : vnorm opsF false (⟨x0, x1, x2⟩, ()) with ⟨n, f⟩
  cases f
  · dsimp only
    by_cases h0 : n < 1048576
    · simp only [h0, decide_true, cond_true, cond_false, say]
    · obtain ⟨u, hu, hU⟩ := vunit_ok hn (by omega)
      obtain ⟨r, hr, r0, r1, r2⟩ := norm_of hU.bx hU.by' hU.bz
      have hr' : vnorm opsF false (u, ()) = (r, false) := hr
      rw [decide_eq_false h0, hu]
      dsimp only
      rw [hr']
      dsimp only
      simp only [cond_false]
      have hn' : fnorm false (V3.mk x0 x1 x2).x (V3.mk x0 x1 x2).y (V3.mk x0 x1 x2).z = (n, false) := hn
      generalize hU4 : u.x * u.x + u.y * u.y + u.z * u.z = U at *
      have low : 4835703278458516698824704 - 13194139533312 ≤ 4 * U → 1099511627768 ≤ r := by
        intro h
        have : 1099511627768 < r + 1 := sq_lt_imp (by omega) (by omega)
        omega
      by_cases h1 : n ≥ 1099511627776
      · obtain ⟨k1, k2⟩ := unit_near hn' hU (by omega) 3298534883328 (by
          have e : n * n * 3298534883328 = 1099511627776 * n * (3 * n) := by grind
          have e2 : 1208925819614629174706176 * (2 * n + 1) ≤ 1099511627776 * 1099511627776 * (3 * n) := by omega
          have e3 : 1099511627776 * 1099511627776 * (3 * n) ≤ 1099511627776 * n * (3 * n) := Int.mul_le_mul_of_nonneg_right (by omega) (by omega)
          omega)
        rw [hU4] at k1 k2
        have l := low k2
        have u1 : r ≤ 1099511627784 := by
          have : r < 1099511627785 := sq_lt_imp (by omega) (by omega)
          omega
        rw [wrap_i64_id (z := r - 1099511627776) (by omega) (by omega), decide_eq_true h1, decide_eq_true (p := r - 1099511627776 ≤ 8) (by omega), decide_eq_true (p := r - 1099511627776 ≥ -8) (by omega)]
        rfl
      · obtain ⟨k1, k2⟩ := unit_near hn' hU (by omega) 3458764513820540928 (by
          have e : n * n * 3458764513820540928 = 1152921504606846976 * n * (3 * n) := by grind
          have e2 : 1208925819614629174706176 * (2 * n + 1) ≤ 1152921504606846976 * 1048576 * (3 * n) := by omega
          have e3 : 1152921504606846976 * 1048576 * (3 * n) ≤ 1152921504606846976 * n * (3 * n) := Int.mul_le_mul_of_nonneg_right (by omega) (by omega)
          omega)
        rw [hU4] at k1 k2
        have l := low k2
        have u1 : r ≤ 1099515822080 := by
          have : r < 1099515822081 := sq_lt_imp (by omega) (by omega)
          omega
        rw [wrap_i64_id (z := r - 1099511627776) (by omega) (by omega), decide_eq_false h1, decide_eq_true (p := r - 1099511627776 ≤ 4194304) (by omega), decide_eq_true (p := r - 1099511627776 ≥ -4194304) (by omega)]
        rfl
  · rfl
end Go.Ab
