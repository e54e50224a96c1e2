/- A part of the proof of 'ModeRuns': lemmas, no statement of their own; no condition. -/
import Derived.Test.YtghmnjmcnchinaaMoC
/- ModeNext, ModeSafe, ModeSteps: the plan behind a step. -/
set_option linter.unusedSimpArgs false
namespace Go.Ab
open Go Go.Proofs
theorem awake8 : fnSum Try.prog { gam := [(9, S0 fun (p : Pl × Sn × Unit) => nextV p.1 p.2.1)] } [] 20 8 [] [] = some (.val (.bool true), []) := by kernel_rfl
theorem ok8 : SumOk Try.prog 8 (S0 fun (_ : Unit) => true) := S0_ok (E := { gam := [(9, S0 fun (p : Pl × Sn × Unit) => nextV p.1 p.2.1)] }) (.cons ok9 .nil) 20 fun _ => awake8
theorem t3 (nx : Pl × Sn × Unit → Pl) (p : Pl) (s : Sn) : fnSum Try.prog { gam := [(8, S0 fun (_ : Unit) => true), (9, S0 nx), (10, S0 nx)] } [] 20 3 [.val (Cod.enc p), .val (Cod.enc s)] [] = (some (AV.val (Value.bool ((nx (p, s, ())).mode == (nx (p, s, ())).mode && ((nx (p, s, ())).calm == (nx (p, s, ())).calm && ((nx (p, s, ())).good == (nx (p, s, ())).good && ((nx (p, s, ())).miss == (nx (p, s, ())).miss && ((nx (p, s, ())).lost == (nx (p, s, ())).lost && ((nx (p, s, ())).faults == (nx (p, s, ())).faults && true))))))), [])) := by kernel_rfl
theorem t6 (nx : Pl × Sn × Unit → Pl) (p : Pl) (s : Sn) : fnSum Try.prog { gam := [(8, S0 fun (_ : Unit) => true), (9, S0 nx)] } [] 20 6 [.val (Cod.enc p), .val (Cod.enc s)] [] = (bif (nx (p, { gap := s.gap, gyro := s.gyro, slow := s.slow, pair := s.pair, lit := s.lit, bad := s.bad, pass := s.pass, order := 1 }, ())).mode != 3 then some (AV.val (Value.bool false), []) else bif s.order == 2 then some (AV.val (Value.bool ((nx ({ mode := 3, calm := p.calm, good := p.good, miss := p.miss, lost := p.lost, faults := p.faults }, s, ())).mode == 0 && ((nx ({ mode := 3, calm := p.calm, good := p.good, miss := p.miss, lost := p.lost, faults := p.faults }, s, ())).calm == 0 && ((nx ({ mode := 3, calm := p.calm, good := p.good, miss := p.miss, lost := p.lost, faults := p.faults }, s, ())).good == 0 && ((nx ({ mode := 3, calm := p.calm, good := p.good, miss := p.miss, lost := p.lost, faults := p.faults }, s, ())).miss == 0 && ((nx ({ mode := 3, calm := p.calm, good := p.good, miss := p.miss, lost := p.lost, faults := p.faults }, s, ())).lost == 0 && ((nx ({ mode := 3, calm := p.calm, good := p.good, miss := p.miss, lost := p.lost, faults := p.faults }, s, ())).faults == 0 && true))))))), []) else some (AV.val (Value.bool ((nx ({ mode := 3, calm := p.calm, good := p.good, miss := p.miss, lost := p.lost, faults := p.faults }, s, ())).mode == 3)), [])) := by kernel_rfl
theorem t7 (nx : Pl × Sn × Unit → Pl) (p : Pl) (s : Sn) : fnSum Try.prog { gam := [(8, S0 fun (_ : Unit) => true), (9, S0 nx)] } [] 20 7 [.val (Cod.enc p), .val (Cod.enc s)] [] = (bif decide (p.mode < 0) then some (AV.val (Value.bool ((nx (p, s, ())).mode == 3)), []) else bif bif false then true else decide (p.mode > 3) then some (AV.val (Value.bool ((nx (p, s, ())).mode == 3)), []) else bif (nx (p, s, ())).mode == p.mode then some (AV.val (Value.bool true), []) else bif (nx (p, s, ())).mode == 3 then some (AV.val (Value.bool (s.order == 1)), []) else bif (nx (p, s, ())).mode == 2 then bif p.mode == 1 then bif bif true then s.gyro else false then bif bif true then s.pair else false then bif bif true then s.lit else false then some (AV.val (Value.bool (bif true then !s.gap else false)), []) else some (AV.val (Value.bool false), []) else some (AV.val (Value.bool false), []) else some (AV.val (Value.bool false), []) else some (AV.val (Value.bool false), []) else bif (nx (p, s, ())).mode == 0 then bif p.mode == 3 then bif bif true then s.order == 2 else false then some (AV.val (Value.bool true), []) else bif p.mode == 1 then bif bif true then s.gyro else false then some (AV.val (Value.bool (bif false then true else bif true then !s.slow else false)), []) else some (AV.val (Value.bool (bif false then true else false)), []) else some (AV.val (Value.bool (bif false then true else false)), []) else bif p.mode == 1 then bif bif true then s.gyro else false then some (AV.val (Value.bool (bif false then true else bif true then !s.slow else false)), []) else some (AV.val (Value.bool (bif false then true else false)), []) else some (AV.val (Value.bool (bif false then true else false)), []) else bif p.mode == 0 then bif bif true then s.gyro else false then bif bif true then s.slow else false then some (AV.val (Value.bool true), []) else some (AV.val (Value.bool (bif false then true else p.mode == 2)), []) else some (AV.val (Value.bool (bif false then true else p.mode == 2)), []) else some (AV.val (Value.bool (bif false then true else p.mode == 2)), [])) := by kernel_rfl 
def nxt (p : Pl × Sn × Unit) : Pl := nextV p.1 p.2.1
theorem mode3 (p : Pl) (s : Sn) : (bif (nextV p { s with order := 1 }).mode != 3 then (some (AV.val (Value.bool false), []) : Option (AV × List Con)) else some (AV.val (Value.bool true), [])) = some (AV.val (Value.bool true), []) := rfl
theorem gam3_ok : GamOk Try.prog [(8, S0 fun (_ : Unit) => true), (9, S0 nxt), (10, S0 nxt)] := .cons ok8 (.cons ok9 (.cons ok10 .nil))
theorem gam6_ok : GamOk Try.prog [(8, S0 fun (_ : Unit) => true), (9, S0 nxt)] := .cons ok8 (.cons ok9 .nil)
def T_ : Option (AV × List Con) := some (AV.val (Value.bool true), [])
theorem law3 (p : Pl) (s : Sn) : fnSum Try.prog { gam := [(8, S0 fun (_ : Unit) => true), (9, S0 nxt), (10, S0 nxt)] } [] 20 3 [.val (Cod.enc p), .val (Cod.enc s)] [] = T_ := by
  rw [t3]
  simp only [BEq.rfl, Bool.and_true, Bool.true_and]
  rfl
theorem law6 (p : Pl) (s : Sn) : fnSum Try.prog { gam := [(8, S0 fun (_ : Unit) => true), (9, S0 nxt)] } [] 20 6 [.val (Cod.enc p), .val (Cod.enc s)] [] = T_ := by
  rw [t6]
  obtain ⟨gap, gyro, slow, pair, lit, bad, pass, order⟩ := s
  unfold nxt nextV
  dsimp only
  by_cases h2 : order = 2
  · subst h2; rfl
  · have e2 : (order == 2) = false := beq_eq_false_iff_ne.2 h2
    rw [e2]
    cases order == 1 <;> rfl
theorem law7 (p : Pl) (s : Sn) : fnSum Try.prog { gam := [(8, S0 fun (_ : Unit) => true), (9, S0 nxt)] } [] 20 7 [.val (Cod.enc p), .val (Cod.enc s)] [] = T_ := by
  rw [t7]
  obtain ⟨mode, calm, good, miss, lost, faults⟩ := p
  obtain ⟨gap, gyro, slow, pair, lit, bad, pass, order⟩ := s
  unfold nxt nextV
  dsimp only
  rcases mode_cases mode with ⟨h1, h2, h3, h4, h5⟩ | ⟨h1, h2, h3, h4, h5, h6⟩ | rfl | rfl | rfl | rfl
  · rw [h1, h2, h3, h4, h5]; cases order == 1 <;> rfl
  · rw [h1, h2, h3, h4, h5, h6]; cases order == 1 <;> rfl
  · cases order == 1
    · cases gyro <;> cases slow <;> simp only [z3, Bool.and_true, Bool.and_false, Bool.true_and, Bool.false_and, cond_true, cond_false] <;> first | rfl | (cases decide (cntV calm ≥ 3) <;> rfl)
    · rfl
  · cases order == 1
    · cases gap <;> cases gyro <;> cases slow <;> cases pair <;> cases lit <;> simp only [z2, Bool.and_true, Bool.and_false, Bool.true_and, Bool.false_and, cond_true, cond_false, Bool.not_true, Bool.not_false] <;> first | rfl | (cases decide (cntV good ≥ 2) <;> rfl)
    · rfl
  · cases order == 1
    · unfold fineV
      cases gap <;> cases bad <;> cases gyro <;> cases pair <;> cases lit <;> cases pass <;> simp only [z3, z5, Bool.and_true, Bool.and_false, Bool.true_and, Bool.false_and, cond_true, cond_false, Bool.not_true, Bool.not_false] <;> first | rfl | (cases decide (cntV lost ≥ 3) <;> first | rfl | (cases decide (cntV miss ≥ 5) <;> rfl)) | (cases decide (cntV miss ≥ 5) <;> rfl)
    · rfl
  · cases order == 1
    · cases order == 2 <;> rfl
    · rfl
theorem ModeNext_calls (a0_0 a0_1 a0_2 a0_3 a0_4 a0_5 : Int) (a1_0 a1_1 a1_2 a1_3 a1_4 a1_5 a1_6 : Bool) (a1_7 : Int) (w : World) : Calls Try.prog 3 #[.agg #[.int .i64 a0_0, .int .i64 a0_1, .int .i64 a0_2, .int .i64 a0_3, .int .i64 a0_4, .int .i64 a0_5], .agg #[.bool a1_0, .bool a1_1, .bool a1_2, .bool a1_3, .bool a1_4, .bool a1_5, .bool a1_6, .int .i64 a1_7]] w fun e w' => e = .returned (.bool true) ∧ RowKit.Below w.heap.size w w' :=
  calls_of_sum (vals := [.agg #[.int .i64 a0_0, .int .i64 a0_1, .int .i64 a0_2, .int .i64 a0_3, .int .i64 a0_4, .int .i64 a0_5], .agg #[.bool a1_0, .bool a1_1, .bool a1_2, .bool a1_3, .bool a1_4, .bool a1_5, .bool a1_6, .int .i64 a1_7]]) (v := .bool true) gam3_ok (law3 ⟨a0_0, a0_1, a0_2, a0_3, a0_4, a0_5⟩ ⟨a1_0, a1_1, a1_2, a1_3, a1_4, a1_5, a1_6, a1_7⟩) w
theorem ModeSafe_calls (a0_0 a0_1 a0_2 a0_3 a0_4 a0_5 : Int) (a1_0 a1_1 a1_2 a1_3 a1_4 a1_5 a1_6 : Bool) (a1_7 : Int) (w : World) : Calls Try.prog 6 #[.agg #[.int .i64 a0_0, .int .i64 a0_1, .int .i64 a0_2, .int .i64 a0_3, .int .i64 a0_4, .int .i64 a0_5], .agg #[.bool a1_0, .bool a1_1, .bool a1_2, .bool a1_3, .bool a1_4, .bool a1_5, .bool a1_6, .int .i64 a1_7]] w fun e w' => e = .returned (.bool true) ∧ RowKit.Below w.heap.size w w' :=
  calls_of_sum (vals := [.agg #[.int .i64 a0_0, .int .i64 a0_1, .int .i64 a0_2, .int .i64 a0_3, .int .i64 a0_4, .int .i64 a0_5], .agg #[.bool a1_0, .bool a1_1, .bool a1_2, .bool a1_3, .bool a1_4, .bool a1_5, .bool a1_6, .int .i64 a1_7]]) (v := .bool true) gam6_ok (law6 ⟨a0_0, a0_1, a0_2, a0_3, a0_4, a0_5⟩ ⟨a1_0, a1_1, a1_2, a1_3, a1_4, a1_5, a1_6, a1_7⟩) w
theorem ModeSteps_calls (a0_0 a0_1 a0_2 a0_3 a0_4 a0_5 : Int) (a1_0 a1_1 a1_2 a1_3 a1_4 a1_5 a1_6 : Bool) (a1_7 : Int) (w : World) : Calls Try.prog 7 #[.agg #[.int .i64 a0_0, .int .i64 a0_1, .int .i64 a0_2, .int .i64 a0_3, .int .i64 a0_4, .int .i64 a0_5], .agg #[.bool a1_0, .bool a1_1, .bool a1_2, .bool a1_3, .bool a1_4, .bool a1_5, .bool a1_6, .int .i64 a1_7]] w fun e w' => e = .returned (.bool true) ∧ RowKit.Below w.heap.size w w' :=
  calls_of_sum (vals := [.agg #[.int .i64 a0_0, .int .i64 a0_1, .int .i64 a0_2, .int .i64 a0_3, .int .i64 a0_4, .int .i64 a0_5], .agg #[.bool a1_0, .bool a1_1, .bool a1_2, .bool a1_3, .bool a1_4, .bool a1_5, .bool a1_6, .int .i64 a1_7]]) (v := .bool true) gam6_ok (law7 ⟨a0_0, a0_1, a0_2, a0_3, a0_4, a0_5⟩ ⟨a1_0, a1_1, a1_2, a1_3, a1_4, a1_5, a1_6, a1_7⟩) w
end Go.Ab
