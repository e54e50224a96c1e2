/- A part of the proof of 'QuatAfter': lemmas, no statement of their own; no condition. -/
import Derived.Test.YtgccejhdohpojaaNuAll
import Derived.Test.YtgccejhdohpojaaLvKeeps
/- QuatAfter: two turns one behind the other are one by their product. -/
namespace Go.Ab
open Go Go.Proofs
theorem law27 (un : Bool → V4 × Unit → V4 × Bool) (tu : Bool → V4 × V3 × Unit → V3 × Bool) (mu : Bool → V4 × V4 × Unit → V4 × Bool) (p0 p1 p2 p3 q0 q1 q2 q3 x0 x1 x2 : Int) :
    fnSum Try.prog { gam := [(70, S0 fun (_ : Unit) => true), (72, S 25 un), (87, S 25 tu), (92, S 25 mu)] } [] 20 27 (List.map AV.val [.agg #[.int .i64 p0, .int .i64 p1, .int .i64 p2, .int .i64 p3], .agg #[.int .i64 q0, .int .i64 q1, .int .i64 q2, .int .i64 q3], .agg #[.int .i64 x0, .int .i64 x1, .int .i64 x2]]) [] =
      let v := V3.mk x0 x1 x2
      let a := un false (⟨p0, p1, p2, p3⟩, ())
      let b := un false (⟨q0, q1, q2, q3⟩, ())
      bif !!a.2 then say true else bif !!b.2 then say true else nearK v V3.zero 1099511627776 (say true)
        (let t := tu false (b.1, v, ())
        let x := tu t.2 (a.1, t.1, ())
        let m := mu x.2 (a.1, b.1, ())
        let y := tu m.2 (m.1, v, ())
        bif !y.2 then nearK x.1 y.1 1024 sayF (say true) else sayF) := by kernel_rfl
theorem m_small {a b m : V4} (ha : QU a) (hb : QU b) (hm : Prod3 a b m) : Up 1099511628800 m.v ∧ (-1099511628800 ≤ m.s ∧ m.s ≤ 1099511628800) := by
  obtain ⟨hM, hS⟩ := m_up ha hb
  have q1 := hM.x
  have q2 := hM.y
  have q3 := hM.z
  have r1 := hm.v.x
  have r2 := hm.v.y
  have r3 := hm.v.z
  have r4 := hm.s
  dsimp only at r1 r2 r3
  exact ⟨⟨by omega, by omega, by omega⟩, by omega⟩
theorem QuatAfter_calls (p0 p1 p2 p3 q0 q1 q2 q3 x0 x1 x2 : Int) (_ : (Lit.int .i64 p0).wf = true) (_ : (Lit.int .i64 p1).wf = true) (_ : (Lit.int .i64 p2).wf = true) (_ : (Lit.int .i64 p3).wf = true) (_ : (Lit.int .i64 q0).wf = true) (_ : (Lit.int .i64 q1).wf = true) (_ : (Lit.int .i64 q2).wf = true) (_ : (Lit.int .i64 q3).wf = true) (w0 : (Lit.int .i64 x0).wf = true) (w1 : (Lit.int .i64 x1).wf = true) (w2 : (Lit.int .i64 x2).wf = true) (w : World) :
    Calls Try.prog 27 #[.agg #[.int .i64 p0, .int .i64 p1, .int .i64 p2, .int .i64 p3], .agg #[.int .i64 q0, .int .i64 q1, .int .i64 q2, .int .i64 q3], .agg #[.int .i64 x0, .int .i64 x1, .int .i64 x2]] w fun e w' => e = .returned (.bool true) ∧ RowKit.Below w.heap.size w w' := by
  have hG : GamOk Try.prog [(70, S0 fun (_ : Unit) => true), (72, S 25 (qunit opsF)), (87, S 25 (qturn vopsF)), (92, S 25 qmul)] := .cons ok70 (.cons ok72 (.cons ok87 (.cons ok92 .nil)))
  have e := law27 (qunit opsF) (qturn vopsF) qmul p0 p1 p2 p3 q0 q1 q2 q3 x0 x1 x2
  refine calls_of_sum (v := .bool true) hG (e.trans ?_) w
  dsimp only
  rcases ha' : qunit opsF false (⟨p0, p1, p2, p3⟩, ()) with ⟨a, f⟩
  rcases hb' : qunit opsF false (⟨q0, q1, q2, q3⟩, ()) with ⟨b, g⟩
  dsimp only
  cases f
  · cases g
    · have ha := qunit_ok ha'
      have hb := qunit_ok hb'
      simp only [Bool.not_false, Bool.not_true, cond_false]
      rcases nearK_cases (v := ⟨x0, x1, x2⟩) (k := 1099511627776) (i64_of w0) (i64_of w1) (i64_of w2) (say true) _ with h | ⟨h, hv⟩
      · rw [h]; rfl
      · rw [h]
        obtain ⟨t, ht, tx, ty, tz⟩ := turn_unit (K := 1099511627776) (by omega) (by omega) hb.v hb.s hv
        have hT : Off3 t (T3 b.v b.s ⟨x0, x1, x2⟩) 9671406556917033397649408 := ⟨tx, ty, tz⟩
        have htu := turn_up hb hv hT
        obtain ⟨x, hx, xx, xy, xz⟩ := turn_unit (u := a) (v := t) (K := 13 * 1099511627776 + 8) (by omega) (by omega) ha.v ha.s htu
        obtain ⟨m, hm, hP⟩ := qmul_ok ha hb
        obtain ⟨hm1, hm2⟩ := m_small ha hb hP
        obtain ⟨y, hy, yx, yy, yz⟩ := turn_ok (u := m) (v := ⟨x0, x1, x2⟩) (K := 1099511627776) (by omega) (by omega) hm1 hm2 hv
        obtain ⟨r1, r2, r3⟩ := after_ok ha hb hP hv hT ⟨xx, xy, xz⟩ ⟨yx, yy, yz⟩
        rw [ht]
        dsimp only
        rw [hx]
        dsimp only
        rw [hm]
        dsimp only
        rw [hy]
        dsimp only
        rw [nearK_yes (by omega) ⟨by omega, by omega⟩ ⟨by omega, by omega⟩ ⟨by omega, by omega⟩]
        rfl
    · rfl
  · rfl
end Go.Ab
