/- A part of the proof of 'ModeRuns': lemmas, no statement of their own; no condition. -/
import Derived.Test.YtghmnjmcnchinaaMoM
/- Counts of a plan, one by one. -/
namespace Go.Ab
open Go Go.Proofs
def agS (ag : Bool → Int → Int) : Summary := fun args cs => match args, cs with
  | [.ptr 0 k, .val (.bool so), .val (.int .i64 m)], [.row 23 [.val (.int .i64 c0), .val (.int .i64 c1), .val (.int .i64 c2), .val (.int .i64 c3), .val (.int .i64 c4), .val (.int .i64 c5)]] => match k with
    | 1 => .ret (.val (.bool (decide (ag so c1 ≥ m)))) [.row 23 [.val (.int .i64 c0), .val (.int .i64 (ag so c1)), .val (.int .i64 c2), .val (.int .i64 c3), .val (.int .i64 c4), .val (.int .i64 c5)]]
    | 2 => .ret (.val (.bool (decide (ag so c2 ≥ m)))) [.row 23 [.val (.int .i64 c0), .val (.int .i64 c1), .val (.int .i64 (ag so c2)), .val (.int .i64 c3), .val (.int .i64 c4), .val (.int .i64 c5)]]
    | 3 => .ret (.val (.bool (decide (ag so c3 ≥ m)))) [.row 23 [.val (.int .i64 c0), .val (.int .i64 c1), .val (.int .i64 c2), .val (.int .i64 (ag so c3)), .val (.int .i64 c4), .val (.int .i64 c5)]]
    | 4 => .ret (.val (.bool (decide (ag so c4 ≥ m)))) [.row 23 [.val (.int .i64 c0), .val (.int .i64 c1), .val (.int .i64 c2), .val (.int .i64 c3), .val (.int .i64 (ag so c4)), .val (.int .i64 c5)]]
    | _ => .no
  | _, _ => .no
def agV (so : Bool) (n : Int) : Int := bif so then cntV n else 0
theorem enc_cond {α : Type} [Cod α] (c : Bool) (x y : α) : (some (AV.val (Cod.enc (cond c x y)), ([] : List Con))) = cond c (some (AV.val (Cod.enc x), [])) (some (AV.val (Cod.enc y), [])) := by cases c <;> rfl
theorem ag_lt (n : Int) : decide (n < 100) = !decide (n ≥ 100) := by
  by_cases h : n < 100
  · rw [decide_eq_true h, decide_eq_false (by omega)]; rfl
  · rw [decide_eq_false h, decide_eq_true (by omega)]; rfl
def row23 (c0 c1 c2 c3 c4 c5 : Int) : List Con := [.row 23 [.val (.int .i64 c0), .val (.int .i64 c1), .val (.int .i64 c2), .val (.int .i64 c3), .val (.int .i64 c4), .val (.int .i64 c5)]]
theorem t15_1 (so : Bool) (m c0 c1 c2 c3 c4 c5 : Int) : fnSum Try.prog { gam := [] } [] 20 15 [.ptr 0 1, .val (.bool so), .val (.int .i64 m)] (row23 c0 c1 c2 c3 c4 c5) =
  bif !so then some (.val (.bool (decide (0 ≥ m))), row23 c0 0 c2 c3 c4 c5) else bif decide (c1 < 100) then some (.val (.bool (decide (IntKind.i64.wrap (c1 + 1) ≥ m))), row23 c0 (IntKind.i64.wrap (c1 + 1)) c2 c3 c4 c5) else some (.val (.bool (decide (100 ≥ m))), row23 c0 100 c2 c3 c4 c5) := by kernel_rfl
theorem v15_1 (so : Bool) (m c0 c1 c2 c3 c4 c5 : Int) : fnSum Try.prog { gam := [] } [] 20 15 [.ptr 0 1, .val (.bool so), .val (.int .i64 m)] (row23 c0 c1 c2 c3 c4 c5) = some (.val (.bool (decide (agV so c1 ≥ m))), row23 c0 (agV so c1) c2 c3 c4 c5) := by
  rw [t15_1, ag_lt]
  unfold agV cntV
  cases so
  · rfl
  · cases decide (c1 ≥ 100) <;> rfl
theorem t15_2 (so : Bool) (m c0 c1 c2 c3 c4 c5 : Int) : fnSum Try.prog { gam := [] } [] 20 15 [.ptr 0 2, .val (.bool so), .val (.int .i64 m)] (row23 c0 c1 c2 c3 c4 c5) =
  bif !so then some (.val (.bool (decide (0 ≥ m))), row23 c0 c1 0 c3 c4 c5) else bif decide (c2 < 100) then some (.val (.bool (decide (IntKind.i64.wrap (c2 + 1) ≥ m))), row23 c0 c1 (IntKind.i64.wrap (c2 + 1)) c3 c4 c5) else some (.val (.bool (decide (100 ≥ m))), row23 c0 c1 100 c3 c4 c5) := by kernel_rfl
theorem v15_2 (so : Bool) (m c0 c1 c2 c3 c4 c5 : Int) : fnSum Try.prog { gam := [] } [] 20 15 [.ptr 0 2, .val (.bool so), .val (.int .i64 m)] (row23 c0 c1 c2 c3 c4 c5) = some (.val (.bool (decide (agV so c2 ≥ m))), row23 c0 c1 (agV so c2) c3 c4 c5) := by
  rw [t15_2, ag_lt]
  unfold agV cntV
  cases so
  · rfl
  · cases decide (c2 ≥ 100) <;> rfl
theorem t15_3 (so : Bool) (m c0 c1 c2 c3 c4 c5 : Int) : fnSum Try.prog { gam := [] } [] 20 15 [.ptr 0 3, .val (.bool so), .val (.int .i64 m)] (row23 c0 c1 c2 c3 c4 c5) =
  bif !so then some (.val (.bool (decide (0 ≥ m))), row23 c0 c1 c2 0 c4 c5) else bif decide (c3 < 100) then some (.val (.bool (decide (IntKind.i64.wrap (c3 + 1) ≥ m))), row23 c0 c1 c2 (IntKind.i64.wrap (c3 + 1)) c4 c5) else some (.val (.bool (decide (100 ≥ m))), row23 c0 c1 c2 100 c4 c5) := by kernel_rfl
theorem v15_3 (so : Bool) (m c0 c1 c2 c3 c4 c5 : Int) : fnSum Try.prog { gam := [] } [] 20 15 [.ptr 0 3, .val (.bool so), .val (.int .i64 m)] (row23 c0 c1 c2 c3 c4 c5) = some (.val (.bool (decide (agV so c3 ≥ m))), row23 c0 c1 c2 (agV so c3) c4 c5) := by
  rw [t15_3, ag_lt]
  unfold agV cntV
  cases so
  · rfl
  · cases decide (c3 ≥ 100) <;> rfl
theorem t15_4 (so : Bool) (m c0 c1 c2 c3 c4 c5 : Int) : fnSum Try.prog { gam := [] } [] 20 15 [.ptr 0 4, .val (.bool so), .val (.int .i64 m)] (row23 c0 c1 c2 c3 c4 c5) =
  bif !so then some (.val (.bool (decide (0 ≥ m))), row23 c0 c1 c2 c3 0 c5) else bif decide (c4 < 100) then some (.val (.bool (decide (IntKind.i64.wrap (c4 + 1) ≥ m))), row23 c0 c1 c2 c3 (IntKind.i64.wrap (c4 + 1)) c5) else some (.val (.bool (decide (100 ≥ m))), row23 c0 c1 c2 c3 100 c5) := by kernel_rfl
theorem v15_4 (so : Bool) (m c0 c1 c2 c3 c4 c5 : Int) : fnSum Try.prog { gam := [] } [] 20 15 [.ptr 0 4, .val (.bool so), .val (.int .i64 m)] (row23 c0 c1 c2 c3 c4 c5) = some (.val (.bool (decide (agV so c4 ≥ m))), row23 c0 c1 c2 c3 (agV so c4) c5) := by
  rw [t15_4, ag_lt]
  unfold agV cntV
  cases so
  · rfl
  · cases decide (c4 ≥ 100) <;> rfl
theorem ok15 : SumOk Try.prog 15 (agS agV) := by
  refine sumOk_of GamOk.nil (E := { gam := [] }) fun args cs r cs' hs => ?_
  unfold agS at hs
  split at hs
  · split at hs <;> simp only [STr.sel, Option.some.injEq, Prod.mk.injEq, reduceCtorEq] at hs <;> obtain ⟨rfl, rfl⟩ := hs
    · exact ⟨by simp, 20, v15_1 ..⟩
    · exact ⟨by simp, 20, v15_2 ..⟩
    · exact ⟨by simp, 20, v15_3 ..⟩
    · exact ⟨by simp, 20, v15_4 ..⟩
  · simp [STr.sel] at hs
theorem t17 (n : Int) : fnSum Try.prog { gam := [] } [] 20 17 [.val (.int .i64 n)] [] = some (.val (Cod.enc (cntV n)), []) := by
  have e : fnSum Try.prog { gam := [] } [] 20 17 [.val (.int .i64 n)] [] = bif decide (n ≥ 100) then some (.val (.int .i64 100), []) else some (.val (.int .i64 (IntKind.i64.wrap (n + 1))), []) := by kernel_rfl
  rw [e]
  unfold cntV
  cases decide (n ≥ 100) <;> rfl
theorem ok17 : SumOk Try.prog 17 (S0 fun (p : Int × Unit) => cntV p.1) := S0_ok (E := { gam := [] }) GamOk.nil 20 fun a => t17 a.1
end Go.Ab
