/- A part of the proof of 'VecScale': lemmas, no statement of their own; no condition. -/
import Derived.Test.YtgccejhdohpojaaFxK
/- The document's Times is the product. -/
namespace Go.Ab
open Go Go.Proofs
theorem timesStep {b z1 z2 s1 s2 t1 t2 : Int} (hp : tpre [b, z1, z2, s1, s2, t1, t2] = true) :
    (b > 0 → ∀ u : Wd, u = (bif b.tmod 2 == 1 then adV (⟨s1, s2⟩, ⟨t1, t2⟩, ()) else ⟨s1, s2⟩) →
      tpre [IntKind.u64.wrap (b.tdiv 2), z1, z2, u.h, u.l, (adV (⟨t1, t2⟩, ⟨t1, t2⟩, ())).h, (adV (⟨t1, t2⟩, ⟨t1, t2⟩, ())).l] = true ∧
      tpost [IntKind.u64.wrap (b.tdiv 2), z1, z2, u.h, u.l, (adV (⟨t1, t2⟩, ⟨t1, t2⟩, ())).h, (adV (⟨t1, t2⟩, ⟨t1, t2⟩, ())).l] = tpost [b, z1, z2, s1, s2, t1, t2] ∧
      (IntKind.u64.wrap (b.tdiv 2)).toNat < b.toNat) ∧
    (¬ b > 0 → tpost [b, z1, z2, s1, s2, t1, t2] = [b, z1, z2, s1, s2, t1, t2]) := by
  simp only [tpre, Bool.and_eq_true, decide_eq_true_eq] at hp
  obtain ⟨hb, hs, ht, hlt⟩ := hp
  simp only [word, decide_eq_true_eq] at hb
  obtain ⟨hb0, hb1⟩ := hb
  refine ⟨fun hpos u hu => ?_, fun hz => ?_⟩
  · have e1 : b.tdiv 2 = b / 2 := Int.tdiv_eq_ediv_of_nonneg hb0
    have e2 : b.tmod 2 = b % 2 := Int.tmod_eq_emod_of_nonneg hb0
    have e3 : IntKind.u64.wrap (b / 2) = b / 2 := wrap_u64_id (by omega) (by omega)
    rw [e1, e3]
    rw [e2] at hu
    obtain ⟨k1, k2⟩ := adV_val ht ht
    obtain ⟨k3, k4⟩ := adV_val hs ht
    have ht' := ht
    have hs' := hs
    simp only [Wd.ok, word, Bool.and_eq_true, decide_eq_true_eq] at ht' hs'
    have hT0 : 0 ≤ (Wd.mk t1 t2).val := by simp only [Wd.val]; omega
    have hS0 : 0 ≤ (Wd.mk s1 s2).val := by simp only [Wd.val]; omega
    have hT1 : (Wd.mk t1 t2).val < 340282366920938463463374607431768211456 := by simp only [Wd.val]; omega
    have hterm : termEnd b.toNat ⟨t1, t2⟩ = termEnd (b / 2).toNat (adV (⟨t1, t2⟩, ⟨t1, t2⟩, ())) := by
      rw [termEnd, dif_neg (by omega)]
      congr 1
      omega
    generalize hTT : (Wd.mk t1 t2).val = T at *
    generalize hSS : (Wd.mk s1 s2).val = Sv at *
    generalize hD : adV (⟨t1, t2⟩, ⟨t1, t2⟩, ()) = D at *
    have hTb : T * b = 2 * (T * (b / 2)) + T * (b % 2) := by
      have : b = 2 * (b / 2) + b % 2 := by omega
      calc T * b = T * (2 * (b / 2) + b % 2) := by rw [← this]
        _ = 2 * (T * (b / 2)) + T * (b % 2) := by rw [Int.mul_add, Int.mul_left_comm]
    have hTh0 : 0 ≤ T * (b / 2) := Int.mul_nonneg hT0 (by omega)
    -- the sum
    have hu1 : u.ok = true ∧ u.val = Sv + T * (b % 2) := by
      rcases Int.emod_two_eq b with h | h
      · rw [h] at hu
        have : u = ⟨s1, s2⟩ := hu
        subst this
        exact ⟨hs, by rw [hSS, h]; omega⟩
      · rw [h] at hu
        have : u = adV (⟨s1, s2⟩, ⟨t1, t2⟩, ()) := hu
        subst this
        refine ⟨k3, ?_⟩
        rw [k4, h, Int.mul_one]
        rw [h, Int.mul_one] at hTb
        omega
    obtain ⟨hu1, hu2⟩ := hu1
    -- the term
    have hD2 : D.val * (b / 2) = 2 * (T * (b / 2)) := by
      by_cases hb2 : b / 2 = 0
      · rw [hb2]; omega
      · have h1 : T * 1 ≤ T * (b / 2) := Int.mul_le_mul_of_nonneg_left (by omega) hT0
        have h2 : 0 ≤ T * (b % 2) := Int.mul_nonneg hT0 (by omega)
        have : D.val = 2 * T := by rw [k2]; omega
        rw [this, Int.mul_assoc]
    have hsum : u.val + D.val * (b / 2) = Sv + T * b := by rw [hu2, hD2, hTb]; omega
    refine ⟨?_, ?_, by omega⟩
    · simp only [tpre, Bool.and_eq_true, decide_eq_true_eq]
      refine ⟨by simp only [word, decide_eq_true_eq]; omega, hu1, k1, ?_⟩
      show u.val + D.val * (b / 2) < _
      rw [hsum]; exact hlt
    · simp only [tpost, tpostV]
      have h1 : (Wd.mk u.h u.l).val + (Wd.mk D.h D.l).val * (b / 2) = Sv + T * b := hsum
      rw [h1, hTT, hSS, hterm]
  · have hb : b = 0 := by omega
    subst hb
    simp only [tpost, tpostV]
    have h1 : termEnd (Int.toNat 0) ⟨t1, t2⟩ = ⟨t1, t2⟩ := by rw [termEnd]; rfl
    rw [h1]
    simp only [Wd.ok, word, Bool.and_eq_true, decide_eq_true_eq] at hs
    simp only [Int.mul_zero, Int.add_zero, Wd.val]
    rw [show (s1 * 18446744073709551616 + s2) / 18446744073709551616 = s1 by omega, show (s1 * 18446744073709551616 + s2) % 18446744073709551616 = s2 by omega]
def tmHints : Hints := [(0, lqHint 24 tmSl tmFx (nums 10 14) tmRows tpre tpost)]
theorem tmBlocks : blocksOf (Try.f172.body.getD .skip) = [(0, .loop (loopOf (blkOf Try.f172 0))), (1, blkOf Try.f172 1)] := by kernel_rfl
theorem tmFit : ∀ fn c, Try.prog.funcs[172]? = some fn → fn.body = some c → HFit Try.prog fn.ntmps tmHints c := by
  intro fn c hf hb
  rw [Try.func172] at hf
  cases hf
  have hn : Try.f172.ntmps = 24 := by kernel_rfl
  have hc : Try.f172.body.getD .skip = c := by rw [hb]; rfl
  rw [hn]
  have hL := tmBlocks
  rw [hc] at hL
  have hcall : ∀ β, CallOk Try.prog (callN Try.prog { gam := [(178, S0 adV)] } 1 β) := callN_ok (.cons ok178 .nil) 1
  refine HFit.of fun p hp h hh s s' hs => ?_
  rw [hL] at hp
  simp only [List.mem_cons, List.not_mem_nil, or_false] at hp
  rcases hp with rfl | rfl
  · have : h = lqHint 24 tmSl tmFx (nums 10 14) tmRows tpre tpost := (Option.some.inj hh).symm
    subst this
    refine lq_ok hcall (F := 50) (wy := { quiet := isSum [(178, S0 adV)] }) (fun xs => (xs.getD 0 0).toNat) ?_ s s' hs
    intro xs hlen hpre x lo hi step
    obtain ⟨b, z1, z2, s1, s2, t1, t2, rfl⟩ : ∃ b z1 z2 s1 s2 t1 t2, xs = [b, z1, z2, s1, s2, t1, t2] := by
      match xs, hlen with
      | [a, b, c, d, e, f, g], _ => exact ⟨a, b, c, d, e, f, g, rfl⟩
    obtain ⟨h1, h2⟩ := timesStep hpre
    rw [timesRound]
    by_cases hb : b > 0
    · obtain ⟨k1, k2, k3⟩ := h1 hb _ rfl
      simp only [hb, decide_true, cond_true]
      refine .inl ⟨_, ?_, k1, ?_, k2, ?_⟩
      · rfl
      · simpa only [List.getD_cons_zero] using k3
      · cases b.tmod 2 == 1 <;> rfl
    · simp only [hb, decide_false, cond_false]
      refine .inr ?_
      rw [h2 hb]
  · simp [findH, tmHints] at hh
def timesVal (p : U6 × U6 × Unit) : Wd := ⟨p.1.n * p.2.1.n / 18446744073709551616, p.1.n * p.2.1.n % 18446744073709551616⟩
theorem ok172 : SumOk Try.prog 172 (S0c mulPre timesVal) := by
  have hG : GamOk Try.prog [(178, S0 adV)] := .cons ok178 .nil
  refine S0c_okH (E := { gam := [(178, S0 adV)] }) hG (hB := tmHints) tmFit 20 fun p hp => ?_
  obtain ⟨⟨a⟩, ⟨b⟩, _⟩ := p
  refine (timesTree adV tpre (fun b s1 s2 t1 t2 => ((Wd.mk s1 s2).val + (Wd.mk t1 t2).val * b) / 18446744073709551616) (fun b s1 s2 t1 t2 => ((Wd.mk s1 s2).val + (Wd.mk t1 t2).val * b) % 18446744073709551616)
    (fun b _ _ t1 t2 => (termEnd b.toNat ⟨t1, t2⟩).h) (fun b _ _ t1 t2 => (termEnd b.toNat ⟨t1, t2⟩).l) a b).trans ?_
  simp only [mulPre, Bool.and_eq_true] at hp
  obtain ⟨ha, hb⟩ := hp
  have ha' := ha
  have hb' := hb
  simp only [word, decide_eq_true_eq] at ha' hb'
  have hab : a * b ≤ 18446744073709551615 * 18446744073709551615 := Int.le_trans (Int.mul_le_mul_of_nonneg_right (by omega) hb'.1) (Int.mul_le_mul_of_nonneg_left (by omega) (by omega))
  have hv : (Wd.mk 0 0).val + (Wd.mk 0 a).val * b = a * b := by simp [Wd.val]
  have hpre : tpre [b, 0, 0, 0, 0, 0, a] = true := by
    simp only [tpre, Bool.and_eq_true, decide_eq_true_eq, hv]
    refine ⟨hb, by decide, ?_, by omega⟩
    simp only [Wd.ok, ha, Bool.and_true]
    decide
  rw [hpre, cond_true, hv]
  rfl
end Go.Ab
