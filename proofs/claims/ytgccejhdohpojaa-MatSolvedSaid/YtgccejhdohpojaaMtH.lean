/- A part of the proof of 'MatSolved': lemmas, no statement of their own; no condition. -/
import Derived.Test.YtgccejhdohpojaaMtG
import Derived.Test.YtgccejhdohpojaaMtB
/- root: the summaries of both packages. -/
namespace Go.Ab
open Go Go.Proofs
def matRootN (o : Ops) (b : Bool) (p : M6 × Int × Unit) : M6 × Bool := byN M6.zero p.2.1 b fun n => doneM (rootRows o p.1.at b n)
theorem root64_bad (o : Ops) (b : Bool) (m : M6) (n : Int) : fnSum Try.prog (envM o) mute 20 64 [.ptr 0 0, .val (Cod.enc m), .val (.int .i64 n)] (row 25 b) = badT 25 (Cod.enc M6.zero) b n := by kernel_rfl
theorem root65_bad (o : Ops) (b : Bool) (m : M6) (n : Int) : fnSum Try.prog (envM o) mute 20 65 [.ptr 0 0, .val (Cod.enc m), .val (.int .i64 n)] (row 27 b) = badT 27 (Cod.enc M6.zero) b n := by kernel_rfl
theorem ok64 : SumOk Try.prog 64 (S 25 (matRootN opsF)) := by
  refine S_join fun (a : M6 × Int × Unit) => ?_
  cases hn : okN a.2.1 with
  | false =>
    refine ⟨fun p => !okN p.2.1, by simp only [hn, Bool.not_false], ?_⟩
    refine Sc_okH (E := envM opsF) gamN_ok (hB := mute) muteFit 20 fun b p hp => ?_
    obtain ⟨m, n, _⟩ := p
    have hp' : okN n = false := by simpa using hp
    refine ((root64_bad opsF b m n).trans (badT_eq hp')).trans ?_
    show _ = some (AV.val (Cod.enc (byN M6.zero n b _).1), row 25 (byN M6.zero n b _).2)
    rw [byN_no _ _ _ hp']
  | true =>
    rcases okN_cases hn with h | h | h | h | h | h
    · refine ⟨fun p => decide (p.2.1 = 1), by simp only [h, decide_true], ?_⟩
      refine Sc_ok (E := envM opsF) gamN_ok 20 fun b p hp => ?_
      obtain ⟨m, n, _⟩ := p
      have hp' : n = 1 := by simpa using hp
      subst hp'
      refine (root64_1 opsF b m).trans ?_
      unfold rootT
      exact (congrArg (fun x => bif !!b then some (AV.val (Cod.enc M6.zero), row 25 b) else x) (doneMT_eq 25 (rootRows opsF m.at b 1))).trans (endT_eq 25 M6.zero b (doneM (rootRows opsF m.at b 1)))
    · refine ⟨fun p => decide (p.2.1 = 2), by simp only [h, decide_true], ?_⟩
      refine Sc_ok (E := envM opsF) gamN_ok 20 fun b p hp => ?_
      obtain ⟨m, n, _⟩ := p
      have hp' : n = 2 := by simpa using hp
      subst hp'
      refine (root64_2 opsF b m).trans ?_
      unfold rootT
      exact (congrArg (fun x => bif !!b then some (AV.val (Cod.enc M6.zero), row 25 b) else x) (doneMT_eq 25 (rootRows opsF m.at b 2))).trans (endT_eq 25 M6.zero b (doneM (rootRows opsF m.at b 2)))
    · refine ⟨fun p => decide (p.2.1 = 3), by simp only [h, decide_true], ?_⟩
      refine Sc_ok (E := envM opsF) gamN_ok 20 fun b p hp => ?_
      obtain ⟨m, n, _⟩ := p
      have hp' : n = 3 := by simpa using hp
      subst hp'
      refine (root64_3 opsF b m).trans ?_
      unfold rootT
      exact (congrArg (fun x => bif !!b then some (AV.val (Cod.enc M6.zero), row 25 b) else x) (doneMT_eq 25 (rootRows opsF m.at b 3))).trans (endT_eq 25 M6.zero b (doneM (rootRows opsF m.at b 3)))
    · refine ⟨fun p => decide (p.2.1 = 4), by simp only [h, decide_true], ?_⟩
      refine Sc_ok (E := envM opsF) gamN_ok 20 fun b p hp => ?_
      obtain ⟨m, n, _⟩ := p
      have hp' : n = 4 := by simpa using hp
      subst hp'
      refine (root64_4 opsF b m).trans ?_
      unfold rootT
      exact (congrArg (fun x => bif !!b then some (AV.val (Cod.enc M6.zero), row 25 b) else x) (doneMT_eq 25 (rootRows opsF m.at b 4))).trans (endT_eq 25 M6.zero b (doneM (rootRows opsF m.at b 4)))
    · refine ⟨fun p => decide (p.2.1 = 5), by simp only [h, decide_true], ?_⟩
      refine Sc_ok (E := envM opsF) gamN_ok 20 fun b p hp => ?_
      obtain ⟨m, n, _⟩ := p
      have hp' : n = 5 := by simpa using hp
      subst hp'
      refine (root64_5 opsF b m).trans ?_
      unfold rootT
      exact (congrArg (fun x => bif !!b then some (AV.val (Cod.enc M6.zero), row 25 b) else x) (doneMT_eq 25 (rootRows opsF m.at b 5))).trans (endT_eq 25 M6.zero b (doneM (rootRows opsF m.at b 5)))
    · refine ⟨fun p => decide (p.2.1 = 6), by simp only [h, decide_true], ?_⟩
      refine Sc_ok (E := envM opsF) gamN_ok 20 fun b p hp => ?_
      obtain ⟨m, n, _⟩ := p
      have hp' : n = 6 := by simpa using hp
      subst hp'
      refine (root64_6 opsF b m).trans ?_
      unfold rootT
      exact (congrArg (fun x => bif !!b then some (AV.val (Cod.enc M6.zero), row 25 b) else x) (doneMT_eq 25 (rootRows opsF m.at b 6))).trans (endT_eq 25 M6.zero b (doneM (rootRows opsF m.at b 6)))
theorem ok65 : SumOk Try.prog 65 (S 27 (matRootN opsF)) := by
  refine S_join fun (a : M6 × Int × Unit) => ?_
  cases hn : okN a.2.1 with
  | false =>
    refine ⟨fun p => !okN p.2.1, by simp only [hn, Bool.not_false], ?_⟩
    refine Sc_okH (E := envM opsF) gamN_ok (hB := mute) muteFit 20 fun b p hp => ?_
    obtain ⟨m, n, _⟩ := p
    have hp' : okN n = false := by simpa using hp
    refine ((root65_bad opsF b m n).trans (badT_eq hp')).trans ?_
    show _ = some (AV.val (Cod.enc (byN M6.zero n b _).1), row 27 (byN M6.zero n b _).2)
    rw [byN_no _ _ _ hp']
  | true =>
    rcases okN_cases hn with h | h | h | h | h | h
    · refine ⟨fun p => decide (p.2.1 = 1), by simp only [h, decide_true], ?_⟩
      refine Sc_ok (E := envM opsF) gamN_ok 20 fun b p hp => ?_
      obtain ⟨m, n, _⟩ := p
      have hp' : n = 1 := by simpa using hp
      subst hp'
      refine (root65_1 opsF b m).trans ?_
      unfold rootT
      exact (congrArg (fun x => bif !!b then some (AV.val (Cod.enc M6.zero), row 27 b) else x) (doneMT_eq 27 (rootRows opsF m.at b 1))).trans (endT_eq 27 M6.zero b (doneM (rootRows opsF m.at b 1)))
    · refine ⟨fun p => decide (p.2.1 = 2), by simp only [h, decide_true], ?_⟩
      refine Sc_ok (E := envM opsF) gamN_ok 20 fun b p hp => ?_
      obtain ⟨m, n, _⟩ := p
      have hp' : n = 2 := by simpa using hp
      subst hp'
      refine (root65_2 opsF b m).trans ?_
      unfold rootT
      exact (congrArg (fun x => bif !!b then some (AV.val (Cod.enc M6.zero), row 27 b) else x) (doneMT_eq 27 (rootRows opsF m.at b 2))).trans (endT_eq 27 M6.zero b (doneM (rootRows opsF m.at b 2)))
    · refine ⟨fun p => decide (p.2.1 = 3), by simp only [h, decide_true], ?_⟩
      refine Sc_ok (E := envM opsF) gamN_ok 20 fun b p hp => ?_
      obtain ⟨m, n, _⟩ := p
      have hp' : n = 3 := by simpa using hp
      subst hp'
      refine (root65_3 opsF b m).trans ?_
      unfold rootT
      exact (congrArg (fun x => bif !!b then some (AV.val (Cod.enc M6.zero), row 27 b) else x) (doneMT_eq 27 (rootRows opsF m.at b 3))).trans (endT_eq 27 M6.zero b (doneM (rootRows opsF m.at b 3)))
    · refine ⟨fun p => decide (p.2.1 = 4), by simp only [h, decide_true], ?_⟩
      refine Sc_ok (E := envM opsF) gamN_ok 20 fun b p hp => ?_
      obtain ⟨m, n, _⟩ := p
      have hp' : n = 4 := by simpa using hp
      subst hp'
      refine (root65_4 opsF b m).trans ?_
      unfold rootT
      exact (congrArg (fun x => bif !!b then some (AV.val (Cod.enc M6.zero), row 27 b) else x) (doneMT_eq 27 (rootRows opsF m.at b 4))).trans (endT_eq 27 M6.zero b (doneM (rootRows opsF m.at b 4)))
    · refine ⟨fun p => decide (p.2.1 = 5), by simp only [h, decide_true], ?_⟩
      refine Sc_ok (E := envM opsF) gamN_ok 20 fun b p hp => ?_
      obtain ⟨m, n, _⟩ := p
      have hp' : n = 5 := by simpa using hp
      subst hp'
      refine (root65_5 opsF b m).trans ?_
      unfold rootT
      exact (congrArg (fun x => bif !!b then some (AV.val (Cod.enc M6.zero), row 27 b) else x) (doneMT_eq 27 (rootRows opsF m.at b 5))).trans (endT_eq 27 M6.zero b (doneM (rootRows opsF m.at b 5)))
    · refine ⟨fun p => decide (p.2.1 = 6), by simp only [h, decide_true], ?_⟩
      refine Sc_ok (E := envM opsF) gamN_ok 20 fun b p hp => ?_
      obtain ⟨m, n, _⟩ := p
      have hp' : n = 6 := by simpa using hp
      subst hp'
      refine (root65_6 opsF b m).trans ?_
      unfold rootT
      exact (congrArg (fun x => bif !!b then some (AV.val (Cod.enc M6.zero), row 27 b) else x) (doneMT_eq 27 (rootRows opsF m.at b 6))).trans (endT_eq 27 M6.zero b (doneM (rootRows opsF m.at b 6)))
end Go.Ab
