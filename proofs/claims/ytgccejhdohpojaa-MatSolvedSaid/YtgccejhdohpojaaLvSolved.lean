/- A part of the proof of 'MatSolved': lemmas, no statement of their own; no condition. -/
import Derived.Test.YtgccejhdohpojaaLvBack
import Derived.Test.YtgccejhdohpojaaMtI
import Derived.Test.YtgccejhdohpojaaMtJ
import Derived.Test.YtgccejhdohpojaaNzAll
/- MatSolved: what is solved, put in again, is what was asked. -/
namespace Go.Ab
open Go Go.Proofs
def bnC (b : Nat → Int) (K : Option (AV × List Con)) : Nat → Nat → Option (AV × List Con)
  | 0, _ => K
  | r + 1, j => bif decide (b j > 1099511627776) then say true else bif decide (b j < -1099511627776) then say true else bnC b K r (j + 1)
def gam23 (pr hb : M6 × Int × Unit → Bool) (p : Bool → M6 × Int × Unit → M6 × Bool) (q r : Bool → M6 × R6 × Int × Unit → R6 × Bool) : Gam := [(62, S0 fun (_ : Unit) => true), (64, S 25 p), (78, S0c pr hb), (76, S 25 q), (85, S 25 r)]
def tail23 (p : Bool → M6 × Int × Unit → M6 × Bool) (q r : Bool → M6 × R6 × Int × Unit → R6 × Bool) (m : M6) (b : R6) (n : Int) (k : Nat) : Option (AV × List Con) :=
  let x := q (p false (m, n, ())).2 ((p false (m, n, ())).1, b, n, ())
  let y := r x.2 (m, x.1, n, ())
  bkC 16777216 y.1.at b.at (say (!y.2)) k 0
def tree23 (pr hb : M6 × Int × Unit → Bool) (p : Bool → M6 × Int × Unit → M6 × Bool) (q r : Bool → M6 × R6 × Int × Unit → R6 × Bool) (m : M6) (b : R6) (n : Int) (k : Nat) : Option (AV × List Con) :=
  bif pr (m, n, ()) then bif !hb (m, n, ()) then say true else bnC b.at (tail23 p q r m b n k) k 0 else none
theorem law23_1 (pr hb : M6 × Int × Unit → Bool) (p : Bool → M6 × Int × Unit → M6 × Bool) (q r : Bool → M6 × R6 × Int × Unit → R6 × Bool) (m : M6) (b : R6) : fnSum Try.prog { gam := gam23 pr hb p q r } [] 20 23 [.val (Cod.enc m), .val (Cod.enc b), .val (.int .i64 1)] [] = tree23 pr hb p q r m b 1 1 := by kernel_rfl
theorem law23_2 (pr hb : M6 × Int × Unit → Bool) (p : Bool → M6 × Int × Unit → M6 × Bool) (q r : Bool → M6 × R6 × Int × Unit → R6 × Bool) (m : M6) (b : R6) : fnSum Try.prog { gam := gam23 pr hb p q r } [] 20 23 [.val (Cod.enc m), .val (Cod.enc b), .val (.int .i64 2)] [] = tree23 pr hb p q r m b 2 2 := by kernel_rfl
theorem law23_3 (pr hb : M6 × Int × Unit → Bool) (p : Bool → M6 × Int × Unit → M6 × Bool) (q r : Bool → M6 × R6 × Int × Unit → R6 × Bool) (m : M6) (b : R6) : fnSum Try.prog { gam := gam23 pr hb p q r } [] 20 23 [.val (Cod.enc m), .val (Cod.enc b), .val (.int .i64 3)] [] = tree23 pr hb p q r m b 3 3 := by kernel_rfl
theorem law23_4 (pr hb : M6 × Int × Unit → Bool) (p : Bool → M6 × Int × Unit → M6 × Bool) (q r : Bool → M6 × R6 × Int × Unit → R6 × Bool) (m : M6) (b : R6) : fnSum Try.prog { gam := gam23 pr hb p q r } [] 20 23 [.val (Cod.enc m), .val (Cod.enc b), .val (.int .i64 4)] [] = tree23 pr hb p q r m b 4 4 := by kernel_rfl
theorem law23_5 (pr hb : M6 × Int × Unit → Bool) (p : Bool → M6 × Int × Unit → M6 × Bool) (q r : Bool → M6 × R6 × Int × Unit → R6 × Bool) (m : M6) (b : R6) : fnSum Try.prog { gam := gam23 pr hb p q r } [] 20 23 [.val (Cod.enc m), .val (Cod.enc b), .val (.int .i64 5)] [] = tree23 pr hb p q r m b 5 5 := by kernel_rfl
theorem law23_6 (pr hb : M6 × Int × Unit → Bool) (p : Bool → M6 × Int × Unit → M6 × Bool) (q r : Bool → M6 × R6 × Int × Unit → R6 × Bool) (m : M6) (b : R6) : fnSum Try.prog { gam := gam23 pr hb p q r } [] 20 23 [.val (Cod.enc m), .val (Cod.enc b), .val (.int .i64 6)] [] = tree23 pr hb p q r m b 6 6 := by kernel_rfl
theorem law23_n (pr hb : M6 × Int × Unit → Bool) (p : Bool → M6 × Int × Unit → M6 × Bool) (q r : Bool → M6 × R6 × Int × Unit → R6 × Bool) (m : M6) (b : R6) (n : Int) : fnSum Try.prog { gam := gam23 pr hb p q r } mute 20 23 [.val (Cod.enc m), .val (Cod.enc b), .val (.int .i64 n)] [] =
    bif decide (n < 1) then say true else bif decide (n > 6) then say true else bif pr (m, n, ()) then bif !hb (m, n, ()) then say true else none else none := by kernel_rfl
theorem bnC_ok {b : Nat → Int} {K : Option (AV × List Con)} (k : Nat) (hK : (∀ i, i < k → -1099511627776 ≤ b i ∧ b i ≤ 1099511627776) → K = say true) : ∀ (r j : Nat), j + r = k → (∀ i, i < j → -1099511627776 ≤ b i ∧ b i ≤ 1099511627776) → bnC b K r j = say true
  | 0, j, e, h => hK (by rw [← e, Nat.add_zero]; exact h)
  | r + 1, j, e, h => by
    unfold bnC
    by_cases h1 : b j > 1099511627776
    · rw [decide_eq_true h1, cond_true]
    · rw [decide_eq_false h1, cond_false]
      by_cases h2 : b j < -1099511627776
      · rw [decide_eq_true h2, cond_true]
      · rw [decide_eq_false h2, cond_false]
        refine bnC_ok k hK r (j + 1) (by omega) fun i hi => ?_
        by_cases c : i = j
        · subst c; omega
        · exact h i (by omega)
theorem tree23_ok {m : M6} {b : R6} {k : Nat} (h1 : 1 ≤ k) (h6 : k ≤ 6) (hh : heavyB (m, k, ()) = true) : tree23 (fun p => okN p.2.1) heavyB (matRootN opsF) (matSolve opsF) (matApply opsF) m b k k = say true := by
  have ho : okN (k : Int) = true := okN_iff.2 (by omega)
  unfold tree23
  dsimp only
  rw [ho, hh, cond_true, Bool.not_true, cond_false]
  refine bnC_ok k (fun hb => ?_) k 0 (by omega) fun i hi => by omega
  obtain ⟨x, y, e1, e2, e3⟩ := matSolved (heavy_hv h6 hh) h1 h6 hb
  unfold tail23
  dsimp only
  rw [e1]
  dsimp only
  rw [e2]
  exact bkC_ok (by omega) k 0 fun t _ h2 => e3 t (by omega)
theorem gam23_ok : GamOk Try.prog (gam23 (fun p => okN p.2.1) heavyB (matRootN opsF) (matSolve opsF) (matApply opsF)) := .cons ok62 (.cons ok64 (.cons ok78 (.cons ok76 (.cons ok85 .nil))))
theorem back23 (m : M6) (b : R6) (n : Int) (w : World) : Calls Try.prog 23 (List.toArray [Cod.enc m, Cod.enc b, .int .i64 n]) w fun e w' => e = .returned (.bool true) ∧ RowKit.Below w.heap.size w w' := by
  have mutely (h : (bif decide (n < 1) then say true else bif decide (n > 6) then say true else bif okN n then bif !heavyB (m, n, ()) then say true else none else none) = say true) :
      Calls Try.prog 23 (List.toArray [Cod.enc m, Cod.enc b, .int .i64 n]) w fun e w' => e = .returned (.bool true) ∧ RowKit.Below w.heap.size w w' :=
    calls_of_facts (fnSum_factsH gam23_ok muteFit (by simp) ((law23_n (fun p => okN p.2.1) heavyB (matRootN opsF) (matSolve opsF) (matApply opsF) m b n).trans h)).2 w
  by_cases h1 : n < 1
  · exact mutely (by rw [decide_eq_true h1, cond_true])
  · by_cases h2 : n > 6
    · exact mutely (by rw [decide_eq_false h1, cond_false, decide_eq_true h2, cond_true])
    · have ho : okN n = true := okN_iff.2 (by omega)
      cases hh : heavyB (m, n, ()) with
      | false => exact mutely (by rw [decide_eq_false h1, cond_false, decide_eq_false h2, cond_false, ho, cond_true, hh, Bool.not_false, cond_true])
      | true =>
        rcases okN_cases ho with h | h | h | h | h | h <;> subst h
        · exact calls_of_sum gam23_ok (vals := [Cod.enc m, Cod.enc b, .int .i64 1]) ((law23_1 (fun p => okN p.2.1) heavyB (matRootN opsF) (matSolve opsF) (matApply opsF) m b).trans (tree23_ok (k := 1) (by omega) (by omega) hh)) w
        · exact calls_of_sum gam23_ok (vals := [Cod.enc m, Cod.enc b, .int .i64 2]) ((law23_2 (fun p => okN p.2.1) heavyB (matRootN opsF) (matSolve opsF) (matApply opsF) m b).trans (tree23_ok (k := 2) (by omega) (by omega) hh)) w
        · exact calls_of_sum gam23_ok (vals := [Cod.enc m, Cod.enc b, .int .i64 3]) ((law23_3 (fun p => okN p.2.1) heavyB (matRootN opsF) (matSolve opsF) (matApply opsF) m b).trans (tree23_ok (k := 3) (by omega) (by omega) hh)) w
        · exact calls_of_sum gam23_ok (vals := [Cod.enc m, Cod.enc b, .int .i64 4]) ((law23_4 (fun p => okN p.2.1) heavyB (matRootN opsF) (matSolve opsF) (matApply opsF) m b).trans (tree23_ok (k := 4) (by omega) (by omega) hh)) w
        · exact calls_of_sum gam23_ok (vals := [Cod.enc m, Cod.enc b, .int .i64 5]) ((law23_5 (fun p => okN p.2.1) heavyB (matRootN opsF) (matSolve opsF) (matApply opsF) m b).trans (tree23_ok (k := 5) (by omega) (by omega) hh)) w
        · exact calls_of_sum gam23_ok (vals := [Cod.enc m, Cod.enc b, .int .i64 6]) ((law23_6 (fun p => okN p.2.1) heavyB (matRootN opsF) (matSolve opsF) (matApply opsF) m b).trans (tree23_ok (k := 6) (by omega) (by omega) hh)) w
set_option maxRecDepth 8000 in
theorem MatSolved_calls (x0 x1 x2 x3 x4 x5 x6 x7 x8 x9 x10 x11 x12 x13 x14 x15 x16 x17 x18 x19 x20 x21 x22 x23 x24 x25 x26 x27 x28 x29 x30 x31 x32 x33 x34 x35 y0 y1 y2 y3 y4 y5 n : Int) (w : World) : Calls Try.prog 23 #[.agg #[.int .i64 x0, .int .i64 x1, .int .i64 x2, .int .i64 x3, .int .i64 x4, .int .i64 x5, .int .i64 x6, .int .i64 x7, .int .i64 x8, .int .i64 x9, .int .i64 x10, .int .i64 x11, .int .i64 x12, .int .i64 x13, .int .i64 x14, .int .i64 x15, .int .i64 x16, .int .i64 x17, .int .i64 x18, .int .i64 x19, .int .i64 x20, .int .i64 x21, .int .i64 x22, .int .i64 x23, .int .i64 x24, .int .i64 x25, .int .i64 x26, .int .i64 x27, .int .i64 x28, .int .i64 x29, .int .i64 x30, .int .i64 x31, .int .i64 x32, .int .i64 x33, .int .i64 x34, .int .i64 x35], .agg #[.int .i64 y0, .int .i64 y1, .int .i64 y2, .int .i64 y3, .int .i64 y4, .int .i64 y5], .int .i64 n] w fun e w' => e = .returned (.bool true) ∧ RowKit.Below w.heap.size w w' :=
  back23 ⟨⟨x0, x1, x2, x3, x4, x5⟩, ⟨x6, x7, x8, x9, x10, x11⟩, ⟨x12, x13, x14, x15, x16, x17⟩, ⟨x18, x19, x20, x21, x22, x23⟩, ⟨x24, x25, x26, x27, x28, x29⟩, ⟨x30, x31, x32, x33, x34, x35⟩⟩ ⟨y0, y1, y2, y3, y4, y5⟩ n w
end Go.Ab
