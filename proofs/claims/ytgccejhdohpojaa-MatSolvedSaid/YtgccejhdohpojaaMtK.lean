/- A part of the proof of 'MatSolved': lemmas, no statement of their own; no condition. -/
import Derived.Test.YtgccejhdohpojaaMtG
import Derived.Test.YtgccejhdohpojaaMtE
import Derived.Test.YtgccejhdohpojaaSqD
/- square: the summaries of both packages. -/
namespace Go.Ab
open Go Go.Proofs
theorem doneMT_eq' (e : TypeId) (r : Mx × Bool) : (bif r.2 then some (AV.val (Cod.enc M6.zero), row e r.2) else some (AV.val (Cod.enc (M6.of r.1)), row e r.2)) = some (AV.val (Cod.enc (doneM r).1), row e (doneM r).2) := pull
theorem square79_bad (o : Ops) (b : Bool) (m : M6) (n : Int) : fnSum Try.prog { gam := gamN o } mute 20 79 [.ptr 0 0, .val (Cod.enc m), .val (.int .i64 n)] (row 25 b) = badT 25 (Cod.enc M6.zero) b n := by kernel_rfl
theorem square84_bad (o : Ops) (b : Bool) (m : M6) (n : Int) : fnSum Try.prog { gam := gamN o } mute 20 84 [.ptr 0 0, .val (Cod.enc m), .val (.int .i64 n)] (row 27 b) = badT 27 (Cod.enc M6.zero) b n := by kernel_rfl
theorem ok79 : SumOk Try.prog 79 (S 25 (matSquare opsF)) := by
  refine S_join fun (a : M6 × Int × Unit) => ?_
  cases hn : okN a.2.1 with
  | false =>
    refine ⟨fun p => !okN p.2.1, by simp only [hn, Bool.not_false], ?_⟩
    refine Sc_okH (E := { gam := gamN opsF }) gamN_ok (hB := mute) muteFit 20 fun b p hp => ?_
    obtain ⟨m, n, _⟩ := p
    have hp' : okN n = false := by simpa using hp
    refine ((square79_bad opsF b m n).trans (badT_eq hp')).trans ?_
    show _ = some (AV.val (Cod.enc (byN M6.zero n b _).1), row 25 (byN M6.zero n b _).2)
    rw [byN_no _ _ _ hp']
  | true =>
    rcases okN_cases hn with h | h | h | h | h | h
    · refine ⟨fun p => decide (p.2.1 = 1), by simp only [h, decide_true], ?_⟩
      refine Sc_ok (E := { gam := gamN opsF }) gamN_ok 20 fun b p hp => ?_
      obtain ⟨m, n, _⟩ := p
      have hp' : n = 1 := by simpa using hp
      subst hp'
      refine (square79_1 opsF b m).trans ?_
      unfold squareT
      rw [doneMT_eq]
      exact endT_eq 25 M6.zero b (doneM (sqN opsF m.at 1 b 1))
    · refine ⟨fun p => decide (p.2.1 = 2), by simp only [h, decide_true], ?_⟩
      refine Sc_ok (E := { gam := gamN opsF }) gamN_ok 20 fun b p hp => ?_
      obtain ⟨m, n, _⟩ := p
      have hp' : n = 2 := by simpa using hp
      subst hp'
      refine (square79_2 opsF b m).trans ?_
      unfold squareT
      rw [doneMT_eq]
      exact endT_eq 25 M6.zero b (doneM (sqN opsF m.at 2 b 2))
    · refine ⟨fun p => decide (p.2.1 = 3), by simp only [h, decide_true], ?_⟩
      refine Sc_ok (E := { gam := gamN opsF }) gamN_ok 20 fun b p hp => ?_
      obtain ⟨m, n, _⟩ := p
      have hp' : n = 3 := by simpa using hp
      subst hp'
      refine (square79_3 opsF b m).trans ?_
      unfold squareT
      rw [doneMT_eq]
      exact endT_eq 25 M6.zero b (doneM (sqN opsF m.at 3 b 3))
    · refine ⟨fun p => decide (p.2.1 = 4), by simp only [h, decide_true], ?_⟩
      refine Sc_ok (E := { gam := gamN opsF }) gamN_ok 20 fun b p hp => ?_
      obtain ⟨m, n, _⟩ := p
      have hp' : n = 4 := by simpa using hp
      subst hp'
      refine (square79_4 opsF b m).trans ?_
      unfold squareT
      rw [doneMT_eq]
      exact endT_eq 25 M6.zero b (doneM (sqN opsF m.at 4 b 4))
    · refine ⟨fun p => decide (p.2.1 = 5), by simp only [h, decide_true], ?_⟩
      refine Sc_ok (E := { gam := gamN opsF }) gamN_ok 20 fun b p hp => ?_
      obtain ⟨m, n, _⟩ := p
      have hp' : n = 5 := by simpa using hp
      subst hp'
      refine (square79_5 opsF b m).trans ?_
      unfold squareT
      rw [doneMT_eq]
      exact endT_eq 25 M6.zero b (doneM (sqN opsF m.at 5 b 5))
    · refine ⟨fun p => decide (p.2.1 = 6), by simp only [h, decide_true], ?_⟩
      refine Sc_okH (E := { gam := gamN opsF }) gamN_ok (hB := hints79) fit79 20 fun b p hp => ?_
      obtain ⟨m, n, _⟩ := p
      have hp' : n = 6 := by simpa using hp
      subst hp'
      refine (sq79 opsF sqPre (sqF opsF) b m).trans ?_
      rw [sqPre_enc (by omega) (by omega), cond_true, sqF_all]
      unfold doneT6
      rw [doneMT_eq' 25 (sqN opsF m.at 6 b 6)]
      exact endT_eq 25 M6.zero b (doneM (sqN opsF m.at 6 b 6))
theorem ok84 : SumOk Try.prog 84 (S 27 (matSquare opsF)) := by
  refine S_join fun (a : M6 × Int × Unit) => ?_
  cases hn : okN a.2.1 with
  | false =>
    refine ⟨fun p => !okN p.2.1, by simp only [hn, Bool.not_false], ?_⟩
    refine Sc_okH (E := { gam := gamN opsF }) gamN_ok (hB := mute) muteFit 20 fun b p hp => ?_
    obtain ⟨m, n, _⟩ := p
    have hp' : okN n = false := by simpa using hp
    refine ((square84_bad opsF b m n).trans (badT_eq hp')).trans ?_
    show _ = some (AV.val (Cod.enc (byN M6.zero n b _).1), row 27 (byN M6.zero n b _).2)
    rw [byN_no _ _ _ hp']
  | true =>
    rcases okN_cases hn with h | h | h | h | h | h
    · refine ⟨fun p => decide (p.2.1 = 1), by simp only [h, decide_true], ?_⟩
      refine Sc_ok (E := { gam := gamN opsF }) gamN_ok 20 fun b p hp => ?_
      obtain ⟨m, n, _⟩ := p
      have hp' : n = 1 := by simpa using hp
      subst hp'
      refine (square84_1 opsF b m).trans ?_
      unfold squareT
      rw [doneMT_eq]
      exact endT_eq 27 M6.zero b (doneM (sqN opsF m.at 1 b 1))
    · refine ⟨fun p => decide (p.2.1 = 2), by simp only [h, decide_true], ?_⟩
      refine Sc_ok (E := { gam := gamN opsF }) gamN_ok 20 fun b p hp => ?_
      obtain ⟨m, n, _⟩ := p
      have hp' : n = 2 := by simpa using hp
      subst hp'
      refine (square84_2 opsF b m).trans ?_
      unfold squareT
      rw [doneMT_eq]
      exact endT_eq 27 M6.zero b (doneM (sqN opsF m.at 2 b 2))
    · refine ⟨fun p => decide (p.2.1 = 3), by simp only [h, decide_true], ?_⟩
      refine Sc_ok (E := { gam := gamN opsF }) gamN_ok 20 fun b p hp => ?_
      obtain ⟨m, n, _⟩ := p
      have hp' : n = 3 := by simpa using hp
      subst hp'
      refine (square84_3 opsF b m).trans ?_
      unfold squareT
      rw [doneMT_eq]
      exact endT_eq 27 M6.zero b (doneM (sqN opsF m.at 3 b 3))
    · refine ⟨fun p => decide (p.2.1 = 4), by simp only [h, decide_true], ?_⟩
      refine Sc_ok (E := { gam := gamN opsF }) gamN_ok 20 fun b p hp => ?_
      obtain ⟨m, n, _⟩ := p
      have hp' : n = 4 := by simpa using hp
      subst hp'
      refine (square84_4 opsF b m).trans ?_
      unfold squareT
      rw [doneMT_eq]
      exact endT_eq 27 M6.zero b (doneM (sqN opsF m.at 4 b 4))
    · refine ⟨fun p => decide (p.2.1 = 5), by simp only [h, decide_true], ?_⟩
      refine Sc_ok (E := { gam := gamN opsF }) gamN_ok 20 fun b p hp => ?_
      obtain ⟨m, n, _⟩ := p
      have hp' : n = 5 := by simpa using hp
      subst hp'
      refine (square84_5 opsF b m).trans ?_
      unfold squareT
      rw [doneMT_eq]
      exact endT_eq 27 M6.zero b (doneM (sqN opsF m.at 5 b 5))
    · refine ⟨fun p => decide (p.2.1 = 6), by simp only [h, decide_true], ?_⟩
      refine Sc_okH (E := { gam := gamN opsF }) gamN_ok (hB := hints84) fit84 20 fun b p hp => ?_
      obtain ⟨m, n, _⟩ := p
      have hp' : n = 6 := by simpa using hp
      subst hp'
      refine (sq84 opsF sqPre (sqF opsF) b m).trans ?_
      rw [sqPre_enc (by omega) (by omega), cond_true, sqF_all]
      unfold doneT6
      rw [doneMT_eq' 27 (sqN opsF m.at 6 b 6)]
      exact endT_eq 27 M6.zero b (doneM (sqN opsF m.at 6 b 6))
end Go.Ab
