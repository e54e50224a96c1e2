/- A part of the proof of 'QuatThere': lemmas, no statement of their own; no condition. -/
import Derived.Test.YtgccejhdohpojaaNvAll
/- QuatThere: an attitude's matrix is that attitude again, and a Rodrigues vector's attitude that vector. -/
namespace Go.Ab
open Go Go.Proofs
theorem thereB_ok {p : V3} (hx : i64? p.x = true) (hy : i64? p.y = true) (hz : i64? p.z = true) : thereB (fromRod opsF vopsF (qunit opsF)) (toRod opsF) p false = say true := by
  unfold thereB
  rcases nearK_cases (k := 1099511627776) hx hy hz (say true) _ with h | ⟨h, hv⟩
  · exact h
  · rw [h]
    obtain ⟨u, s, h1, h2, ⟨x1, x2⟩, ⟨y1, y2⟩, ⟨z1, z2⟩⟩ := rod_back hv
    rw [h1]
    dsimp only
    rw [h2]
    dsimp only
    rw [nearK_yes (by omega) ⟨by omega, by omega⟩ ⟨by omega, by omega⟩ ⟨by omega, by omega⟩]
    rfl
theorem QU.back {u : V4} (h : QU u) : QU ⟨-u.w, -u.x, -u.y, u.z⟩ := by
  refine ⟨h.v.neg, h.s, ?_, ?_⟩
  · have := h.lo
    show _ ≤ -u.w * -u.w + -u.x * -u.x + -u.y * -u.y + u.z * u.z
    rw [Int.neg_mul_neg, Int.neg_mul_neg, Int.neg_mul_neg]
    exact this
  · have := h.hi
    show -u.w * -u.w + -u.x * -u.x + -u.y * -u.y + u.z * u.z ≤ _
    rw [Int.neg_mul_neg, Int.neg_mul_neg, Int.neg_mul_neg]
    exact this
theorem QuatThere_calls (q0 q1 q2 q3 x0 x1 x2 : Int) (_ : (Lit.int .i64 q0).wf = true) (_ : (Lit.int .i64 q1).wf = true) (_ : (Lit.int .i64 q2).wf = true) (_ : (Lit.int .i64 q3).wf = true) (w0 : (Lit.int .i64 x0).wf = true) (w1 : (Lit.int .i64 x1).wf = true) (w2 : (Lit.int .i64 x2).wf = true) (w : World) :
    Calls Try.prog 30 #[.agg #[.int .i64 q0, .int .i64 q1, .int .i64 q2, .int .i64 q3], .agg #[.int .i64 x0, .int .i64 x1, .int .i64 x2]] w fun e w' => e = .returned (.bool true) ∧ RowKit.Below w.heap.size w w' := by
  have hG : GamOk Try.prog [(70, S0 fun (_ : Unit) => true), (72, S 25 (qunit opsF)), (101, S 25 (matrix (qturn vopsF))), (100, S 25 (fromMat opsF (qunit opsF))), (93, S 27 qmul), (94, S0 qback), (80, S 25 (fromRod opsF vopsF (qunit opsF))), (82, S 25 (toRod opsF))] :=
    .cons ok70 (.cons ok72 (.cons ok101 (.cons ok100 (.cons ok93 (.cons ok94 (.cons ok80 (.cons ok82 .nil)))))))
  have e := law30 (qunit opsF) (matrix (qturn vopsF)) (fromMat opsF (qunit opsF)) qmul qback (fromRod opsF vopsF (qunit opsF)) (toRod opsF) q0 q1 q2 q3 x0 x1 x2
  refine calls_of_sum (v := .bool true) hG (e.trans ?_) w
  dsimp only
  have hB := thereB_ok (p := ⟨x0, x1, x2⟩) (i64_of w0) (i64_of w1) (i64_of w2)
  rcases hq : qunit opsF false (⟨q0, q1, q2, q3⟩, ()) with ⟨u, f⟩
  dsimp only
  cases f
  · have hu := qunit_ok hq
    obtain ⟨m, hm, hM⟩ := matrix_ok hu
    obtain ⟨w', hw, hF⟩ := from_ok hu hM
    obtain ⟨d, hd, hP⟩ := qmul_ok hF.qu hu.back
    have hV := found_mV hu hF
    have p1 := hP.v.x
    have p2 := hP.v.y
    have p3 := hP.v.z
    have v1 := hV.x
    have v2 := hV.y
    have v3 := hV.z
    have e1 : mV w'.v (V4.v ⟨-u.w, -u.x, -u.y, u.z⟩) w'.s (V4.s ⟨-u.w, -u.x, -u.y, u.z⟩) = mV w'.v (neg3v u.v) w'.s u.s := rfl
    rw [e1] at p1 p2 p3
    dsimp only at p1 p2 p3
    simp only [Bool.not_false, cond_true]
    rw [hm]
    dsimp only
    rw [hw]
    dsimp only
    rw [qback_ok hu, hd]
    dsimp only
    rw [cond_false, hB, nearK_yes (by omega) ⟨by show _ ≤ d.v.x - 0; omega, by show d.v.x - 0 ≤ _; omega⟩ ⟨by show _ ≤ d.v.y - 0; omega, by show d.v.y - 0 ≤ _; omega⟩ ⟨by show _ ≤ d.v.z - 0; omega, by show d.v.z - 0 ≤ _; omega⟩]
    rfl
  · simp only [Bool.not_true, cond_false]
    exact hB
end Go.Ab
