/- A part of the proof of 'MatSolved': lemmas, no statement of their own; no condition. -/
import Derived.Test.YtgccejhdohpojaaMtG
import Derived.Test.YtgccejhdohpojaaMtD
/- solve: the summaries of both packages. -/
namespace Go.Ab
open Go Go.Proofs
theorem solve76_bad (o : Ops) (b : Bool) (m : M6) (y : R6) (n : Int) : fnSum Try.prog { gam := gamN o } mute 20 76 [.ptr 0 0, .val (Cod.enc m), .val (Cod.enc y), .val (.int .i64 n)] (row 25 b) = badT 25 (Cod.enc R6.zero) b n := by kernel_rfl
theorem solve77_bad (o : Ops) (b : Bool) (m : M6) (y : R6) (n : Int) : fnSum Try.prog { gam := gamN o } mute 20 77 [.ptr 0 0, .val (Cod.enc m), .val (Cod.enc y), .val (.int .i64 n)] (row 27 b) = badT 27 (Cod.enc R6.zero) b n := by kernel_rfl
theorem ok76 : SumOk Try.prog 76 (S 25 (matSolve opsF)) := by
  refine S_join fun (a : M6 × R6 × Int × Unit) => ?_
  cases hn : okN a.2.2.1 with
  | false =>
    refine ⟨fun p => !okN p.2.2.1, by simp only [hn, Bool.not_false], ?_⟩
    refine Sc_okH (E := { gam := gamN opsF }) gamN_ok (hB := mute) muteFit 20 fun b p hp => ?_
    obtain ⟨m, y, n, _⟩ := p
    have hp' : okN n = false := by simpa using hp
    refine ((solve76_bad opsF b m y n).trans (badT_eq hp')).trans ?_
    show _ = some (AV.val (Cod.enc (byN R6.zero n b _).1), row 25 (byN R6.zero n b _).2)
    rw [byN_no _ _ _ hp']
  | true =>
    rcases okN_cases hn with h | h | h | h | h | h
    · refine ⟨fun p => decide (p.2.2.1 = 1), by simp only [h, decide_true], ?_⟩
      refine Sc_ok (E := { gam := gamN opsF }) gamN_ok 20 fun b p hp => ?_
      obtain ⟨m, y, n, _⟩ := p
      have hp' : n = 1 := by simpa using hp
      subst hp'
      refine (solve76_1 opsF b m y).trans ?_
      unfold solveT
      rw [doneRT_eq]
      exact endT_eq 25 R6.zero b (doneR (solve0 opsF b m y 1))
    · refine ⟨fun p => decide (p.2.2.1 = 2), by simp only [h, decide_true], ?_⟩
      refine Sc_ok (E := { gam := gamN opsF }) gamN_ok 20 fun b p hp => ?_
      obtain ⟨m, y, n, _⟩ := p
      have hp' : n = 2 := by simpa using hp
      subst hp'
      refine (solve76_2 opsF b m y).trans ?_
      unfold solveT
      rw [doneRT_eq]
      exact endT_eq 25 R6.zero b (doneR (solve0 opsF b m y 2))
    · refine ⟨fun p => decide (p.2.2.1 = 3), by simp only [h, decide_true], ?_⟩
      refine Sc_ok (E := { gam := gamN opsF }) gamN_ok 20 fun b p hp => ?_
      obtain ⟨m, y, n, _⟩ := p
      have hp' : n = 3 := by simpa using hp
      subst hp'
      refine (solve76_3 opsF b m y).trans ?_
      unfold solveT
      rw [doneRT_eq]
      exact endT_eq 25 R6.zero b (doneR (solve0 opsF b m y 3))
    · refine ⟨fun p => decide (p.2.2.1 = 4), by simp only [h, decide_true], ?_⟩
      refine Sc_ok (E := { gam := gamN opsF }) gamN_ok 20 fun b p hp => ?_
      obtain ⟨m, y, n, _⟩ := p
      have hp' : n = 4 := by simpa using hp
      subst hp'
      refine (solve76_4 opsF b m y).trans ?_
      unfold solveT
      rw [doneRT_eq]
      exact endT_eq 25 R6.zero b (doneR (solve0 opsF b m y 4))
    · refine ⟨fun p => decide (p.2.2.1 = 5), by simp only [h, decide_true], ?_⟩
      refine Sc_ok (E := { gam := gamN opsF }) gamN_ok 20 fun b p hp => ?_
      obtain ⟨m, y, n, _⟩ := p
      have hp' : n = 5 := by simpa using hp
      subst hp'
      refine (solve76_5 opsF b m y).trans ?_
      unfold solveT
      rw [doneRT_eq]
      exact endT_eq 25 R6.zero b (doneR (solve0 opsF b m y 5))
    · refine ⟨fun p => decide (p.2.2.1 = 6), by simp only [h, decide_true], ?_⟩
      refine Sc_ok (E := { gam := gamN opsF }) gamN_ok 20 fun b p hp => ?_
      obtain ⟨m, y, n, _⟩ := p
      have hp' : n = 6 := by simpa using hp
      subst hp'
      refine (solve76_6 opsF b m y).trans ?_
      unfold solveT
      rw [doneRT_eq]
      exact endT_eq 25 R6.zero b (doneR (solve0 opsF b m y 6))
theorem ok77 : SumOk Try.prog 77 (S 27 (matSolve opsF)) := by
  refine S_join fun (a : M6 × R6 × Int × Unit) => ?_
  cases hn : okN a.2.2.1 with
  | false =>
    refine ⟨fun p => !okN p.2.2.1, by simp only [hn, Bool.not_false], ?_⟩
    refine Sc_okH (E := { gam := gamN opsF }) gamN_ok (hB := mute) muteFit 20 fun b p hp => ?_
    obtain ⟨m, y, n, _⟩ := p
    have hp' : okN n = false := by simpa using hp
    refine ((solve77_bad opsF b m y n).trans (badT_eq hp')).trans ?_
    show _ = some (AV.val (Cod.enc (byN R6.zero n b _).1), row 27 (byN R6.zero n b _).2)
    rw [byN_no _ _ _ hp']
  | true =>
    rcases okN_cases hn with h | h | h | h | h | h
    · refine ⟨fun p => decide (p.2.2.1 = 1), by simp only [h, decide_true], ?_⟩
      refine Sc_ok (E := { gam := gamN opsF }) gamN_ok 20 fun b p hp => ?_
      obtain ⟨m, y, n, _⟩ := p
      have hp' : n = 1 := by simpa using hp
      subst hp'
      refine (solve77_1 opsF b m y).trans ?_
      unfold solveT
      rw [doneRT_eq]
      exact endT_eq 27 R6.zero b (doneR (solve0 opsF b m y 1))
    · refine ⟨fun p => decide (p.2.2.1 = 2), by simp only [h, decide_true], ?_⟩
      refine Sc_ok (E := { gam := gamN opsF }) gamN_ok 20 fun b p hp => ?_
      obtain ⟨m, y, n, _⟩ := p
      have hp' : n = 2 := by simpa using hp
      subst hp'
      refine (solve77_2 opsF b m y).trans ?_
      unfold solveT
      rw [doneRT_eq]
      exact endT_eq 27 R6.zero b (doneR (solve0 opsF b m y 2))
    · refine ⟨fun p => decide (p.2.2.1 = 3), by simp only [h, decide_true], ?_⟩
      refine Sc_ok (E := { gam := gamN opsF }) gamN_ok 20 fun b p hp => ?_
      obtain ⟨m, y, n, _⟩ := p
      have hp' : n = 3 := by simpa using hp
      subst hp'
      refine (solve77_3 opsF b m y).trans ?_
      unfold solveT
      rw [doneRT_eq]
      exact endT_eq 27 R6.zero b (doneR (solve0 opsF b m y 3))
    · refine ⟨fun p => decide (p.2.2.1 = 4), by simp only [h, decide_true], ?_⟩
      refine Sc_ok (E := { gam := gamN opsF }) gamN_ok 20 fun b p hp => ?_
      obtain ⟨m, y, n, _⟩ := p
      have hp' : n = 4 := by simpa using hp
      subst hp'
      refine (solve77_4 opsF b m y).trans ?_
      unfold solveT
      rw [doneRT_eq]
      exact endT_eq 27 R6.zero b (doneR (solve0 opsF b m y 4))
    · refine ⟨fun p => decide (p.2.2.1 = 5), by simp only [h, decide_true], ?_⟩
      refine Sc_ok (E := { gam := gamN opsF }) gamN_ok 20 fun b p hp => ?_
      obtain ⟨m, y, n, _⟩ := p
      have hp' : n = 5 := by simpa using hp
      subst hp'
      refine (solve77_5 opsF b m y).trans ?_
      unfold solveT
      rw [doneRT_eq]
      exact endT_eq 27 R6.zero b (doneR (solve0 opsF b m y 5))
    · refine ⟨fun p => decide (p.2.2.1 = 6), by simp only [h, decide_true], ?_⟩
      refine Sc_ok (E := { gam := gamN opsF }) gamN_ok 20 fun b p hp => ?_
      obtain ⟨m, y, n, _⟩ := p
      have hp' : n = 6 := by simpa using hp
      subst hp'
      refine (solve77_6 opsF b m y).trans ?_
      unfold solveT
      rw [doneRT_eq]
      exact endT_eq 27 R6.zero b (doneR (solve0 opsF b m y 6))
end Go.Ab
