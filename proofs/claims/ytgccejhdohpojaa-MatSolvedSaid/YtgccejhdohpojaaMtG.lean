/- A part of the proof of 'MatSolved': lemmas, no statement of their own; no condition. -/
import Derived.Test.YtgccejhdohpojaaMtC
/- A count that is none; how the counts are put together. -/
namespace Go.Ab
open Go Go.Proofs
theorem bool_notnot (b : Bool) : (!!b) = b := by cases b <;> rfl
theorem S_join {α ω : Type} [Args α] [Cod ω] {P : Program} {f : FuncId} {e : TypeId} {g : Bool → α → ω × Bool} (h : ∀ a, ∃ pre : α → Bool, pre a = true ∧ SumOk P f (Sc e pre g)) : SumOk P f (S e g) := by
  intro args cs r cs' hs
  unfold S at hs
  split at hs
  · rename_i r0 e' b
    split at hs
    · rename_i a h1 h2
      obtain ⟨pre, h3, h4⟩ := h a
      refine h4 _ _ _ _ ?_
      unfold Sc
      simp only [h1, h2, STr.sel, h3, cond_true]
      simpa only [STr.sel] using hs
    · simp [STr.sel] at hs
  · simp [STr.sel] at hs
/-- A hint that has no word. -/
def mute : Hints := [(0, fun _ => .no)]
theorem muteFit {P : Program} {f : FuncId} : ∀ fn c, P.funcs[f]? = some fn → fn.body = some c → HFit P fn.ntmps mute c := by
  intro fn c _ _
  refine HFit.of fun p _ h hh s s' hs => ?_
  unfold mute at hh
  simp only [findH] at hh
  split at hh
  · cases hh
    cases hs
  · cases hh
def badT (e : TypeId) (z : Value) (b : Bool) (n : Int) : Option (AV × List Con) :=
  bif decide (n < 1) then some (.val z, row e true) else bif decide (n > 6) then some (.val z, row e true) else bif !!b then some (.val z, row e b) else none
theorem badT_eq {e : TypeId} {z : Value} {b : Bool} {n : Int} (h : okN n = false) : badT e z b n = some (.val z, row e true) := by
  unfold okN at h
  unfold badT
  by_cases h1 : n < 1
  · rw [decide_eq_true h1]; rfl
  · rw [decide_eq_false h1, cond_false]
    rw [decide_eq_true (p := 1 ≤ n) (by omega), Bool.true_and, decide_eq_false_iff_not] at h
    rw [decide_eq_true (p := n > 6) (by omega)]
    rfl
theorem okN_cases {n : Int} (h : okN n = true) : n = 1 ∨ n = 2 ∨ n = 3 ∨ n = 4 ∨ n = 5 ∨ n = 6 := by
  unfold okN at h
  simp only [Bool.and_eq_true, decide_eq_true_eq] at h
  omega
theorem doneMT_eq (e : TypeId) (r : Mx × Bool) : doneMT e r = some (.val (Cod.enc (doneM r).1), row e (doneM r).2) := pull
theorem doneRT_eq (e : TypeId) (r : (Nat → Int) × Bool) : doneRT e r = some (.val (Cod.enc (doneR r).1), row e (doneR r).2) := pull
theorem byN_ok {ω : Type} (z : ω) {n : Int} (b : Bool) (F : Nat → ω × Bool) (h : okN n = true) : byN z n b F = bif b then (z, b) else F n.toNat := by unfold byN; rw [h]; rfl
theorem byN_no {ω : Type} (z : ω) {n : Int} (b : Bool) (F : Nat → ω × Bool) (h : okN n = false) : byN z n b F = (z, true) := by unfold byN; rw [h]; rfl
theorem endT_eq {ω : Type} [Cod ω] (e : TypeId) (z : ω) (b : Bool) (r : ω × Bool) : (bif !!b then some (AV.val (Cod.enc z), row e b) else some (AV.val (Cod.enc r.1), row e r.2)) = some (AV.val (Cod.enc (bif b then (z, b) else r).1), row e (bif b then (z, b) else r).2) := by
  cases b <;> rfl
end Go.Ab
