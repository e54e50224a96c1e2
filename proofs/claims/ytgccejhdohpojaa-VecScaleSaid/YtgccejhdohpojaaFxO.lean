/- A part of the proof of 'VecScale': lemmas, no statement of their own; no condition. -/
import Derived.Test.YtgccejhdohpojaaFxN
/- The document's Over: its summary. -/
namespace Go.Ab
open Go Go.Proofs
theorem overNext {b lf q ah al lf' q' : Int} {n : Nat} (hn : n < 64) (hp : opre [b, lf, q, n, ah, al] = true)
    (h : (lf' = lf * 2 + al / 2 ^ n % 2 - b ∧ q' = q * 2 + 1 ∧ b ≤ lf * 2 + al / 2 ^ n % 2) ∨ (lf' = lf * 2 + al / 2 ^ n % 2 ∧ q' = q * 2 ∧ lf * 2 + al / 2 ^ n % 2 < b)) :
    opre [b, lf', q', (n : Int) - 1, ah, al] = true ∧ opost [b, lf', q', (n : Int) - 1, ah, al] = opost [b, lf, q, n, ah, al] := by
  simp only [opre, decide_eq_true_eq] at hp
  obtain ⟨a1, a2, a3, a4, a5, a6, a7, a8, a9⟩ := hp
  have ek : ((n : Int) + 1).toNat = n + 1 := by omega
  have ek2 : ((n : Int) - 1 + 1).toNat = n := by omega
  rw [ek] at a9
  have hz : (0 : Int) < 2 ^ n := Int.pow_pos (by omega)
  have hp2 : (2 : Int) ^ (n + 1) = 2 * 2 ^ n := by rw [Int.pow_succ, Int.mul_comm]
  have hq : (q + 1) * 2 ^ (n + 1) = (q * 2 + 2) * 2 ^ n := by rw [hp2, ← Int.mul_assoc, Int.add_mul, Int.one_mul]
  rw [hq] at a9
  simp only [opre, decide_eq_true_eq, opost, ovPostV, ek, ek2]
  rw [ovT_step]
  have hb0 : b ≠ 0 := by omega
  rcases h with ⟨rfl, rfl, h3⟩ | ⟨rfl, rfl, h3⟩
  · have hT : (lf * 2 + al / 2 ^ n % 2) * 2 ^ n + al % 2 ^ n = ovT (lf * 2 + al / 2 ^ n % 2 - b) al n + 2 ^ n * b := by
      unfold ovT
      rw [Int.sub_mul, Int.mul_comm b]
      omega
    rw [hT, Int.add_mul_emod_self_right, Int.add_mul_ediv_right _ _ hb0]
    refine ⟨⟨by omega, by omega, a3, a4, a5, by omega, by omega, by omega, ?_⟩, ?_⟩
    · rw [show q * 2 + 1 + 1 = q * 2 + 2 by omega]; exact a9
    · rw [show (q * 2 + 1) * 2 ^ n = q * 2 ^ (n + 1) + 2 ^ n by rw [hp2, Int.add_mul, Int.one_mul, Int.mul_assoc]]
      rw [show q * 2 ^ (n + 1) + 2 ^ n + ovT (lf * 2 + al / 2 ^ n % 2 - b) al n / b = q * 2 ^ (n + 1) + (ovT (lf * 2 + al / 2 ^ n % 2 - b) al n / b + 2 ^ n) by omega]
  · have hT : (lf * 2 + al / 2 ^ n % 2) * 2 ^ n + al % 2 ^ n = ovT (lf * 2 + al / 2 ^ n % 2) al n := rfl
    rw [hT]
    refine ⟨⟨by omega, by omega, a3, a4, a5, by omega, by omega, by omega, ?_⟩, ?_⟩
    · refine Int.le_trans (Int.mul_le_mul_of_nonneg_right ?_ (by omega)) a9
      omega
    · rw [show q * 2 * 2 ^ n = q * 2 ^ (n + 1) by rw [hp2, Int.mul_assoc]]
def ovHints : Hints := [(0, lqHint 51 ovSl ovFx ovG ovRows opre opost)]
theorem ovBlocks : blocksOf (Try.f186.body.getD .skip) = [(0, .loop (loopOf (blkOf Try.f186 0))), (1, blkOf Try.f186 1)] := by kernel_rfl
theorem ovFit : ∀ fn c, Try.prog.funcs[186]? = some fn → fn.body = some c → HFit Try.prog fn.ntmps ovHints c := by
  intro fn c hf hb
  rw [Try.func186] at hf
  cases hf
  have hn : Try.f186.ntmps = 51 := by kernel_rfl
  have hc : Try.f186.body.getD .skip = c := by rw [hb]; rfl
  rw [hn]
  have hL := ovBlocks
  rw [hc] at hL
  have hcall : ∀ β, CallOk Try.prog (callN Try.prog { gam := [] } 1 β) := callN_ok GamOk.nil 1
  refine HFit.of fun p hp h hh s s' hs => ?_
  rw [hL] at hp
  simp only [List.mem_cons, List.not_mem_nil, or_false] at hp
  rcases hp with rfl | rfl
  · have : h = lqHint 51 ovSl ovFx ovG ovRows opre opost := (Option.some.inj hh).symm
    subst this
    refine lq_ok hcall (F := 50) (wy := {}) (fun xs => (xs.getD 3 0 + 1).toNat) ?_ s s' hs
    intro xs hlen hpre x lo hi step
    obtain ⟨b, lf, q, i, ah, al, rfl⟩ : ∃ b lf q i ah al, xs = [b, lf, q, i, ah, al] := by
      match xs, hlen with
      | [a, b, c, d, e, f], _ => exact ⟨a, b, c, d, e, f, rfl⟩
    have hr := overRound b lf q i ah al x lo hi step
    unfold ovSt at hr
    rw [hr]
    have hpre' := hpre
    simp only [opre, decide_eq_true_eq] at hpre'
    obtain ⟨a1, a2, a3, a4, a5, a6, a7, a8, a9⟩ := hpre'
    by_cases hi0 : i ≥ 0
    · obtain ⟨n, rfl⟩ : ∃ n : Nat, i = n := ⟨i.toNat, by omega⟩
      have hi1 : ¬ ((n : Int) < 0) := by omega
      simp only [hi0, hi1, decide_true, decide_false, cond_true, cond_false]
      rw [ovNext_eq (by omega) a4 a5, wrap_i64_id (by omega) (by omega)]
      have e63 : srI lf 63 = lf / 9223372036854775808 := srI_eq lf 63 (by omega)
      have eq1 : shI q 1 = q * 2 % 18446744073709551616 := shI_eq q 1 (by omega)
      have hz : (0 : Int) < 2 ^ n := Int.pow_pos (by omega)
      have hz1 : (1 : Int) ≤ 2 ^ n := by omega
      have ek : ((n : Int) + 1).toNat = n + 1 := by omega
      rw [ek] at a9
      have hp2 : (2 : Int) ^ (n + 1) = 2 * 2 ^ n := by rw [Int.pow_succ, Int.mul_comm]
      have hq2 : q * 2 + 2 ≤ 18446744073709551616 := by
        have h1 : (q * 2 + 2) * 1 ≤ (q * 2 + 2) * 2 ^ n := Int.mul_le_mul_of_nonneg_left hz1 (by omega)
        have h2 : (q + 1) * 2 ^ (n + 1) = (q * 2 + 2) * 2 ^ n := by rw [hp2, ← Int.mul_assoc, Int.add_mul, Int.one_mul]
        omega
      rw [e63, eq1, Int.emod_eq_of_lt (a := q * 2) (by omega) (by omega), wrap_u64_id (z := q * 2 + 1) (by omega) (by omega), wrap_u64]
      have step : ∀ lf' q' : Int, ((lf' = lf * 2 + al / 2 ^ n % 2 - b ∧ q' = q * 2 + 1 ∧ b ≤ lf * 2 + al / 2 ^ n % 2) ∨ (lf' = lf * 2 + al / 2 ^ n % 2 ∧ q' = q * 2 ∧ lf * 2 + al / 2 ^ n % 2 < b)) →
          ∃ ys, ys.length = shLen ovSl + rowLen ovRows ∧ opre ys = true ∧ (ys.getD 3 0 + 1).toNat < ([b, lf, q, (n : Int), ah, al].getD 3 0 + 1).toNat ∧ opost ys = opost [b, lf, q, (n : Int), ah, al] ∧
            (some (Ex.normal, lqSt 51 ovSl ovFx ovG ovRows [b, lf', q', (n : Int) - 1, ah, al] x lo hi step) : Option (Ex × St)) = some (.normal, lqSt 51 ovSl ovFx ovG ovRows ys x lo hi step) := by
        intro lf' q' h
        obtain ⟨k1, k2⟩ := overNext (by omega) hpre h
        exact ⟨_, rfl, k1, by simp only [List.getD_cons_succ, List.getD_cons_zero]; omega, k2, rfl⟩
      have hbit0 : 0 ≤ al / 2 ^ n % 2 := by omega
      have hbit1 : al / 2 ^ n % 2 ≤ 1 := by omega
      generalize hbit : al / 2 ^ n % 2 = t at *
      by_cases htop : lf / 9223372036854775808 = 1
      · simp only [htop, BEq.rfl, cond_true]
        rw [show (lf * 2 % 18446744073709551616 + t - b) % 18446744073709551616 = lf * 2 + t - b by omega]
        exact .inl (step _ _ (.inl ⟨rfl, rfl, by omega⟩))
      · have ht : (lf / 9223372036854775808 == 1) = false := by simp; exact htop
        rw [ht, cond_false]
        have e2 : lf * 2 % 18446744073709551616 = lf * 2 := by omega
        rw [e2]
        by_cases hge : lf * 2 + t ≥ b
        · simp only [hge, decide_true, cond_true]
          rw [show (lf * 2 + t - b) % 18446744073709551616 = lf * 2 + t - b by omega]
          exact .inl (step _ _ (.inl ⟨rfl, rfl, by omega⟩))
        · simp only [hge, decide_false, cond_false]
          exact .inl (step _ _ (.inr ⟨rfl, rfl, by omega⟩))
    · simp only [hi0, decide_false, cond_false]
      have : i = -1 := by omega
      subst this
      refine .inr ?_
      have hT : ovT lf al (-1 + 1 : Int).toNat = lf := by
        show lf * 2 ^ 0 + al % 2 ^ 0 = lf
        simp
      simp only [opost, ovPostV, hT]
      rw [Int.emod_eq_of_lt a1 a2, Int.ediv_eq_zero_of_lt a1 a2]
      have hqq : q * 2 ^ (-1 + 1 : Int).toNat + 0 = q := by
        show q * 2 ^ 0 + 0 = q
        simp
      rw [hqq]
  · simp [findH, ovHints] at hh
end Go.Ab
