/- A part of the proof of 'MatSolved': lemmas, no statement of their own; no condition. -/
import Derived.Test.YtgccejhdohpojaaLvBackT
import Derived.Test.YtgccejhdohpojaaNumW
/- MatBack: the square of a root is the matrix. -/
namespace Go.Ab
open Go Go.Proofs
theorem bkC_ok {c : Int} (hc : 0 ≤ c ∧ c ≤ 1073741824) {s m : Nat → Int} {K : Option (AV × List Con)} : ∀ (r j : Nat), (∀ t, j ≤ t → t < j + r → -c ≤ s t - m t ∧ s t - m t ≤ c) → bkC c s m K r j = K
  | 0, _, _ => rfl
  | r + 1, j, h => by
    have h1 := h j (by omega) (by omega)
    unfold bkC
    rw [wrap_fit (by omega) (by omega), decide_eq_false (by omega), cond_false, decide_eq_false (by omega), cond_false]
    exact bkC_ok hc r (j + 1) fun t h1 h2 => h t (by omega) (by omega)
theorem bkR_ok {c : Int} (hc : 0 ≤ c ∧ c ≤ 1073741824) {s m : Mx} {n : Nat} {K : Option (AV × List Con)} (h : ∀ i j, i < n → j < n → -c ≤ s i j - m i j ∧ s i j - m i j ≤ c) : ∀ (r i : Nat), i + r ≤ n → bkR c s m n K r i = K
  | 0, _, _ => rfl
  | r + 1, i, hi => by
    unfold bkR
    rw [bkR_ok hc h r (i + 1) (by omega)]
    exact bkC_ok hc n 0 fun t _ h2 => h i t (by omega) (by omega)
theorem tree20_ok {m : M6} {k : Nat} (h1 : 1 ≤ k) (h6 : k ≤ 6) (hh : heavyB (m, k, ()) = true) : tree20 (fun p => okN p.2.1) heavyB (matRootN opsF) (matSquare opsF) m k k = say true := by
  obtain ⟨s, e1, e2, e3⟩ := matBack (heavy_hv h6 hh) h1 h6
  have ho : okN (k : Int) = true := okN_iff.2 (by omega)
  unfold tree20
  dsimp only
  rw [ho, hh, cond_true, Bool.not_true, cond_false, e2, e1]
  exact bkR_ok (by omega) e3 k 0 (by omega)
theorem gam20_ok : GamOk Try.prog (gam20 (fun p => okN p.2.1) heavyB (matRootN opsF) (matSquare opsF)) := .cons ok62 (.cons ok64 (.cons ok78 (.cons ok79 .nil)))
theorem back20 (m : M6) (n : Int) (w : World) : Calls Try.prog 20 (List.toArray [Cod.enc m, .int .i64 n]) w fun e w' => e = .returned (.bool true) ∧ RowKit.Below w.heap.size w w' := by
  have mutely (h : (bif decide (n < 1) then say true else bif decide (n > 6) then say true else bif okN n then bif !heavyB (m, n, ()) then say true else none else none) = say true) :
      Calls Try.prog 20 (List.toArray [Cod.enc m, .int .i64 n]) w fun e w' => e = .returned (.bool true) ∧ RowKit.Below w.heap.size w w' :=
    calls_of_facts (fnSum_factsH gam20_ok muteFit (by simp) ((law20_n (fun p => okN p.2.1) heavyB (matRootN opsF) (matSquare opsF) m n).trans h)).2 w
  by_cases h1 : n < 1
  · exact mutely (by rw [decide_eq_true h1, cond_true])
  · by_cases h2 : n > 6
    · exact mutely (by rw [decide_eq_false h1, cond_false, decide_eq_true h2, cond_true])
    · have ho : okN n = true := okN_iff.2 (by omega)
      cases hh : heavyB (m, n, ()) with
      | false => exact mutely (by rw [decide_eq_false h1, cond_false, decide_eq_false h2, cond_false, ho, cond_true, hh, Bool.not_false, cond_true])
      | true =>
        rcases okN_cases ho with h | h | h | h | h | h <;> subst h
        · exact calls_of_sum gam20_ok (vals := [Cod.enc m, .int .i64 1]) ((law20_1 (fun p => okN p.2.1) heavyB (matRootN opsF) (matSquare opsF) m).trans (tree20_ok (k := 1) (by omega) (by omega) hh)) w
        · exact calls_of_sum gam20_ok (vals := [Cod.enc m, .int .i64 2]) ((law20_2 (fun p => okN p.2.1) heavyB (matRootN opsF) (matSquare opsF) m).trans (tree20_ok (k := 2) (by omega) (by omega) hh)) w
        · exact calls_of_sum gam20_ok (vals := [Cod.enc m, .int .i64 3]) ((law20_3 (fun p => okN p.2.1) heavyB (matRootN opsF) (matSquare opsF) m).trans (tree20_ok (k := 3) (by omega) (by omega) hh)) w
        · exact calls_of_sum gam20_ok (vals := [Cod.enc m, .int .i64 4]) ((law20_4 (fun p => okN p.2.1) heavyB (matRootN opsF) (matSquare opsF) m).trans (tree20_ok (k := 4) (by omega) (by omega) hh)) w
        · exact calls_of_sum gam20_ok (vals := [Cod.enc m, .int .i64 5]) ((law20_5 (fun p => okN p.2.1) heavyB (matRootN opsF) (matSquare opsF) m).trans (tree20_ok (k := 5) (by omega) (by omega) hh)) w
        · exact calls_of_sum gam20_ok (vals := [Cod.enc m, .int .i64 6]) ((law20_6 (fun p => okN p.2.1) heavyB (matRootN opsF) (matSquare opsF) m).trans (tree20_ok (k := 6) (by omega) (by omega) hh)) w
set_option maxRecDepth 8000 in
theorem MatBack_calls (x0 x1 x2 x3 x4 x5 x6 x7 x8 x9 x10 x11 x12 x13 x14 x15 x16 x17 x18 x19 x20 x21 x22 x23 x24 x25 x26 x27 x28 x29 x30 x31 x32 x33 x34 x35 n : Int) (w : World) : Calls Try.prog 20 #[.agg #[.int .i64 x0, .int .i64 x1, .int .i64 x2, .int .i64 x3, .int .i64 x4, .int .i64 x5, .int .i64 x6, .int .i64 x7, .int .i64 x8, .int .i64 x9, .int .i64 x10, .int .i64 x11, .int .i64 x12, .int .i64 x13, .int .i64 x14, .int .i64 x15, .int .i64 x16, .int .i64 x17, .int .i64 x18, .int .i64 x19, .int .i64 x20, .int .i64 x21, .int .i64 x22, .int .i64 x23, .int .i64 x24, .int .i64 x25, .int .i64 x26, .int .i64 x27, .int .i64 x28, .int .i64 x29, .int .i64 x30, .int .i64 x31, .int .i64 x32, .int .i64 x33, .int .i64 x34, .int .i64 x35], .int .i64 n] w fun e w' => e = .returned (.bool true) ∧ RowKit.Below w.heap.size w w' :=
  back20 ⟨⟨x0, x1, x2, x3, x4, x5⟩, ⟨x6, x7, x8, x9, x10, x11⟩, ⟨x12, x13, x14, x15, x16, x17⟩, ⟨x18, x19, x20, x21, x22, x23⟩, ⟨x24, x25, x26, x27, x28, x29⟩, ⟨x30, x31, x32, x33, x34, x35⟩⟩ n w
end Go.Ab
