/- A part of the proof of 'VecScale': lemmas, no statement of their own; no condition. -/
import Derived.Test.YtgccejhdohpojaaFxC
import Derived.Test.YtgccejhdohpojaaProg
import Derived.KernelRfl
/- math/bits.Div64: its two loops. -/
namespace Go.Ab
open Go Go.Proofs
def blkOf (f : Func) (id : Nat) : Code := (((blocksOf (f.body.getD .skip)).find? (fun p => Nat.beq p.1 id)).getD (0, .skip)).2
def loopOf : Code → Code | .loop c => c | c => c
def d64a : Slots := [(9, .int .u64), (10, .int .u64), (13, .int .u64), (15, .int .u64), (16, .int .u64)]
def d64b : Slots := [(9, .int .u64), (10, .int .u64), (14, .int .u64), (18, .int .u64), (16, .int .u64)]
def dtree (N id : Nat) (sl : Slots) (G : List Nat) (y1 y0 u q r : Int) (x : Nat → AV) (heap : Hp) (lo hi step : Nat) : Option (Ex × St) :=
  bif decide (q ≥ 4294967296) then
    bif decide (IntKind.u64.wrap (r + y1) ≥ 4294967296) then some (.exit id, lpSt N sl G [y1, y0, u, IntKind.u64.wrap (q - 1), IntKind.u64.wrap (r + y1)] x heap lo hi step)
    else some (.normal, lpSt N sl G [y1, y0, u, IntKind.u64.wrap (q - 1), IntKind.u64.wrap (r + y1)] x heap lo hi step)
  else bif decide (IntKind.u64.wrap (q * y0) > IntKind.u64.wrap (IntKind.u64.wrap (4294967296 * r) + u)) then
    bif decide (IntKind.u64.wrap (r + y1) ≥ 4294967296) then some (.exit id, lpSt N sl G [y1, y0, u, IntKind.u64.wrap (q - 1), IntKind.u64.wrap (r + y1)] x heap lo hi step)
    else some (.normal, lpSt N sl G [y1, y0, u, IntKind.u64.wrap (q - 1), IntKind.u64.wrap (r + y1)] x heap lo hi step)
  else some (.exit id, lpSt N sl G [y1, y0, u, q, r] x heap lo hi step)
theorem round0 (y1 y0 u q r : Int) (x : Nat → AV) (heap : Hp) (lo hi step : Nat) :
    run Try.prog (callN Try.prog { gam := [] } 1) 135 {} [] 50 (Ex × St) (loopOf (blkOf Try.f183 0)) (lpSt 135 d64a (nums 67 19) [y1, y0, u, q, r] x heap lo hi step) (fun e s' => some (e, maskSt (nums 67 19) s')) =
      dtree 135 0 d64a (nums 67 19) y1 y0 u q r x heap lo hi step := by kernel_rfl
theorem round2 (y1 y0 u q r : Int) (x : Nat → AV) (heap : Hp) (lo hi step : Nat) :
    run Try.prog (callN Try.prog { gam := [] } 1) 135 {} [] 50 (Ex × St) (loopOf (blkOf Try.f183 2)) (lpSt 135 d64b (nums 102 19) [y1, y0, u, q, r] x heap lo hi step) (fun e s' => some (e, maskSt (nums 102 19) s')) =
      dtree 135 2 d64b (nums 102 19) y1 y0 u q r x heap lo hi step := by kernel_rfl
theorem dtree_ok {N id : Nat} {sl : Slots} {G : List Nat} (hsl : shLen sl = 5) {F : List Int → (Nat → AV) → Hp → Nat → Nat → Nat → Option (Ex × St)}
    (hF : ∀ y1 y0 u q r x heap lo hi step, F [y1, y0, u, q, r] x heap lo hi step = dtree N id sl G y1 y0 u q r x heap lo hi step) :
    ∀ xs, xs.length = shLen sl → dpre xs = true → ∀ x heap lo hi step,
      (∃ ys, ys.length = shLen sl ∧ dpre ys = true ∧ (ys.getD 3 0).toNat < (xs.getD 3 0).toNat ∧ dpost ys = dpost xs ∧ F xs x heap lo hi step = some (.normal, lpSt N sl G ys x heap lo hi step)) ∨
      F xs x heap lo hi step = some (.exit id, lpSt N sl G (dpost xs) x heap lo hi step) := by
  intro xs hlen hp x heap lo hi step
  rw [hsl] at hlen
  obtain ⟨y1, y0, u, q, r, rfl⟩ : ∃ y1 y0 u q r, xs = [y1, y0, u, q, r] := by
    match xs, hlen with
    | [a, b, c, d, e], _ => exact ⟨a, b, c, d, e, rfl⟩
  obtain ⟨hs, he⟩ := dstep hp
  have hp' := hp
  simp only [dpre, decide_eq_true_eq] at hp'
  obtain ⟨a1, a2, a3, a4, a5, a6, a7, a8, a9, a10, a11, a12⟩ := hp'
  rw [hF]
  unfold dtree
  have w1 : IntKind.u64.wrap (r + y1) = r + y1 := wrap_u64_id (by omega) (by omega)
  rw [w1]
  have more : (q ≥ 4294967296 ∨ q * y0 > 4294967296 * r + u) → (∃ ys, ys.length = shLen sl ∧ dpre ys = true ∧ (ys.getD 3 0).toNat < ([y1, y0, u, q, r].getD 3 0).toNat ∧ dpost ys = dpost [y1, y0, u, q, r] ∧ (bif decide (r + y1 ≥ 4294967296) then some (Ex.exit id, lpSt N sl G [y1, y0, u, IntKind.u64.wrap (q - 1), r + y1] x heap lo hi step)
    else some (.normal, lpSt N sl G [y1, y0, u, IntKind.u64.wrap (q - 1), r + y1] x heap lo hi step)) = some (.normal, lpSt N sl G ys x heap lo hi step)) ∨ (bif decide (r + y1 ≥ 4294967296) then some (Ex.exit id, lpSt N sl G [y1, y0, u, IntKind.u64.wrap (q - 1), r + y1] x heap lo hi step)
    else some (.normal, lpSt N sl G [y1, y0, u, IntKind.u64.wrap (q - 1), r + y1] x heap lo hi step)) = some (.exit id, lpSt N sl G (dpost [y1, y0, u, q, r]) x heap lo hi step) := by
    intro hc
    obtain ⟨h1, h2, h3⟩ := hs hc
    rw [wrap_u64_id (z := q - 1) (by omega) (by omega)]
    by_cases hr : r + y1 ≥ 4294967296
    · refine .inr ?_
      simp only [hr, decide_true, cond_true]
      rw [h2 hr]
    · refine .inl ⟨[y1, y0, u, q - 1, r + y1], by rw [hsl]; rfl, (h3 (by omega)).1, ?_, (h3 (by omega)).2, ?_⟩
      · simp only [List.getD_cons_succ, List.getD_cons_zero]; omega
      · simp only [hr, decide_false, cond_false]
  by_cases hq : q ≥ 4294967296
  · simp only [hq, decide_true, cond_true]
    exact more (.inl hq)
  · simp only [hq, decide_false, cond_false]
    have b1 : q * y0 ≤ 4294967295 * 4294967295 := Int.le_trans (Int.mul_le_mul_of_nonneg_right (by omega) a3) (Int.mul_le_mul_of_nonneg_left (by omega) (by omega))
    have b0 : 0 ≤ q * y0 := Int.mul_nonneg a7 a3
    rw [wrap_u64_id (z := q * y0) b0 (by omega), wrap_u64_id (z := 4294967296 * r) (by omega) (by omega), wrap_u64_id (z := 4294967296 * r + u) (by omega) (by omega)]
    by_cases hc : q * y0 > 4294967296 * r + u
    · simp only [hc, decide_true, cond_true]
      exact more (.inr hc)
    · simp only [hc, decide_false, cond_false]
      refine .inr ?_
      rw [he (by omega) (by omega)]
def d64h : Hints := [(0, lpHint 135 d64a (nums 67 19) dpre dpost), (2, lpHint 135 d64b (nums 102 19) dpre dpost)]
theorem d64blocks : blocksOf (Try.f183.body.getD .skip) = [(0, .loop (loopOf (blkOf Try.f183 0))), (1, blkOf Try.f183 1), (2, .loop (loopOf (blkOf Try.f183 2))), (3, blkOf Try.f183 3)] := by kernel_rfl
theorem d64fit : ∀ fn c, Try.prog.funcs[183]? = some fn → fn.body = some c → HFit Try.prog fn.ntmps d64h c := by
  intro fn c hf hb
  rw [Try.func183] at hf
  cases hf
  have hn : Try.f183.ntmps = 135 := by kernel_rfl
  have hc : Try.f183.body.getD .skip = c := by rw [hb]; rfl
  rw [hn]
  have hL := d64blocks
  rw [hc] at hL
  have hcall : ∀ β, CallOk Try.prog (callN Try.prog { gam := [] } 1 β) := callN_ok GamOk.nil 1
  refine HFit.of fun p hp h hh s s' hs => ?_
  rw [hL] at hp
  simp only [List.mem_cons, List.not_mem_nil, or_false] at hp
  rcases hp with rfl | rfl | rfl | rfl
  · have : h = lpHint 135 d64a (nums 67 19) dpre dpost := (Option.some.inj hh).symm
    subst this
    exact lp_ok hcall (F := 50) (wy := {}) (fun xs => (xs.getD 3 0).toNat) (dtree_ok rfl (F := fun xs x heap lo hi step => run Try.prog (callN Try.prog { gam := [] } 1) 135 {} [] 50 (Ex × St) (loopOf (blkOf Try.f183 0)) (lpSt 135 d64a (nums 67 19) xs x heap lo hi step) (fun e s' => some (e, maskSt (nums 67 19) s'))) round0) s s' hs
  · simp [findH, d64h] at hh
  · have : h = lpHint 135 d64b (nums 102 19) dpre dpost := (Option.some.inj hh).symm
    subst this
    exact lp_ok hcall (F := 50) (wy := {}) (fun xs => (xs.getD 3 0).toNat) (dtree_ok rfl (F := fun xs x heap lo hi step => run Try.prog (callN Try.prog { gam := [] } 1) 135 {} [] 50 (Ex × St) (loopOf (blkOf Try.f183 2)) (lpSt 135 d64b (nums 102 19) xs x heap lo hi step) (fun e s' => some (e, maskSt (nums 102 19) s'))) round2) s s' hs
  · simp [findH, d64h] at hh
end Go.Ab
