/- A part of the proof of 'VecScale': lemmas, no statement of their own; no condition. -/
import Derived.Test.YtgccejhdohpojaaFxP
/- The document's ratio is the same rounded quotient. -/
namespace Go.Ab
open Go Go.Proofs
def szU (p : Int × Unit) : U6 := ⟨bif decide (p.1 < 0) then IntKind.u64.wrap (IntKind.i64.wrap (0 - p.1)) else IntKind.u64.wrap p.1⟩
def gvU (f : Bool) (p : U6 × Bool × Unit) : Int × Bool :=
  bif decide (p.1.n > 4611686018427387904) then (0, true) else (bif p.2.1 then IntKind.i64.wrap (0 - IntKind.i64.wrap p.1.n) else IntKind.i64.wrap p.1.n, f)
theorem ok179 : SumOk Try.prog 179 (S0 szU) := by
  refine S0_ok (E := { gam := [] }) GamOk.nil 20 fun a => ?_
  obtain ⟨a, _⟩ := a
  refine (size179 a).trans ?_
  unfold szU
  dsimp only
  cases decide (a < 0) <;> rfl
theorem ok174 : SumOk Try.prog 174 (S 27 gvU) := by
  refine S_ok (E := { gam := [] }) GamOk.nil 20 fun f a => ?_
  obtain ⟨⟨n⟩, s, _⟩ := a
  refine (give174 f s n).trans ?_
  unfold gvU
  dsimp only
  cases decide (n > 4611686018427387904) <;> cases s <;> rfl
theorem sgnTree_eq {α : Type} (a b c : Int) (G : Bool → α) : sgnTree a b c G = G (neg3 a b c) := by
  unfold sgnTree neg3
  cases decide (a < 0) <;> cases decide (b < 0) <;> cases decide (c < 0) <;> rfl
theorem szU_num {a : Int} (h : num a = true) : (szU (a, ())).n = iabs a := (szV_num h).1
theorem ok168 : SumOk Try.prog 168 (Sc 27 num3 ratV) := by
  have hG : GamOk Try.prog [(172, S0c mulPre timesVal), (186, S0c overPre overVal), (179, S0 szU), (174, S 27 gvU)] := .cons ok172 (.cons ok186 (.cons ok179 (.cons ok174 .nil)))
  refine Sc_ok (E := { gam := [(172, S0c mulPre timesVal), (186, S0c overPre overVal), (179, S0 szU), (174, S 27 gvU)] }) hG 20 fun f p hp => ?_
  obtain ⟨a, b, c, _⟩ := p
  simp only [num3, Bool.and_eq_true] at hp
  obtain ⟨ha, hb, hc⟩ := hp
  refine (ratTree mulPre timesVal overPre overVal szU gvU a b c f).trans ?_
  obtain ⟨a3, a4⟩ := iabs_num ha
  obtain ⟨b3, b4⟩ := iabs_num hb
  obtain ⟨c3, c4⟩ := iabs_num hc
  dsimp only
  rw [szU_num ha, szU_num hb, szU_num hc, sgnTree_eq, sgnTree_eq]
  have n0 : 0 ≤ iabs a * iabs b := Int.mul_nonneg a3 b3
  have n1 : iabs a * iabs b ≤ 4611686018427387904 * 4611686018427387904 := Int.le_trans (Int.mul_le_mul_of_nonneg_right a4 b3) (Int.mul_le_mul_of_nonneg_left b4 (by omega))
  have hm : mulPre (⟨iabs a⟩, ⟨iabs b⟩, ()) = true := by simp only [mulPre, word, Bool.and_eq_true, decide_eq_true_eq]; omega
  rw [hm, cond_true]
  unfold ratV fratio
  dsimp only
  have ht : timesVal (⟨iabs a⟩, ⟨iabs b⟩, ()) = ⟨iabs a * iabs b / 18446744073709551616, iabs a * iabs b % 18446744073709551616⟩ := rfl
  rw [ht]
  generalize iabs a * iabs b = N at *
  generalize iabs c = z at *
  have ho : overPre (⟨N / 18446744073709551616, N % 18446744073709551616⟩, ⟨z⟩, ()) = true := by
    simp only [overPre, Wd.ok, word, Bool.and_eq_true, decide_eq_true_eq]; omega
  rw [ho, cond_true]
  have hval : (Wd.mk (N / 18446744073709551616) (N % 18446744073709551616)).val = N := by simp only [Wd.val]; omega
  unfold overVal
  dsimp only
  rw [hval]
  by_cases hz : z = 0
  · subst hz
    rfl
  have hz' : (z == 0) = false := by simp; exact hz
  have hzp : 0 < z := by omega
  rw [hz']
  simp only [Bool.false_or]
  by_cases hh : N / 18446744073709551616 ≥ z
  · have : decide (N / z > 4611686018427387904) = true := by
      simp only [decide_eq_true_eq]
      have : 4611686018427387905 ≤ N / z := (Int.le_ediv_iff_mul_le hzp).2 (by omega)
      omega
    simp only [hh, this, decide_true, cond_true, Bool.true_or, Bool.not_false]
    rfl
  simp only [hh, decide_false, cond_false, Bool.not_true]
  have q0 : 0 ≤ N / z := Int.ediv_nonneg n0 (by omega)
  have r0 := Int.emod_nonneg N (b := z) (by omega)
  have r1 := Int.emod_lt_of_pos N hzp
  by_cases hq : N / z > 4611686018427387904
  · simp only [hq, decide_true, cond_true, Bool.true_or]
    rfl
  simp only [hq, decide_false, cond_false, Bool.false_or]
  rw [wrap_u64_id (z := z - N % z) (by omega) (by omega), wrap_u64_id (z := N / z + 1) (by omega) (by omega)]
  have fin : ∀ q : Int, 0 ≤ q → q ≤ 4611686018427387905 → gvU f (⟨q⟩, neg3 a b c, ()) = bif decide (q > 4611686018427387904) then ((0 : Int), true) else (bif neg3 a b c then 0 - q else q, f) := by
    intro q h0 h1
    unfold gvU
    dsimp only
    rw [wrap_i64_id (z := q) (by omega) (by omega), wrap_i64_id (z := 0 - q) (by omega) (by omega)]
  rw [fin _ (by omega) (by omega), fin _ (by omega) (by omega)]
  unfold rnd
  cases decide (N % z ≥ z - N % z) <;> rfl
theorem gam168 : GamOk Try.prog [(168, Sc 27 num3 ratV)] := .cons ok168 .nil
theorem ok122 : SumOk Try.prog 122 (S 27 (op2 fmul)) := S_ok (E := { gam := [(168, Sc 27 num3 ratV)] }) gam168 20 fun f p => by
  obtain ⟨x, y, _⟩ := p
  exact ((mul122 num3 ratV x y f).trans (rtk_eq _ _ _)).trans (mulVal_eq 27 x y f)
theorem ok140 : SumOk Try.prog 140 (S 27 (op2 fdiv)) := S_ok (E := { gam := [(168, Sc 27 num3 ratV)] }) gam168 20 fun f p => by
  obtain ⟨x, y, _⟩ := p
  exact ((div140 num3 ratV x y f).trans (rtk_eq _ _ _)).trans (divVal_eq 27 x y f)
theorem ok118 : SumOk Try.prog 118 (S 27 (op3 fpart)) := S_ok (E := { gam := [(168, Sc 27 num3 ratV)] }) gam168 20 fun f p => by
  obtain ⟨x, y, z, _⟩ := p
  exact ((part118 num3 ratV x y z f).trans (rtk_eq _ _ _)).trans (partVal_eq 27 x y z f)
end Go.Ab
