/- A part of the proof of 'MatSolved': lemmas, no statement of their own; no condition. -/
import Derived.Test.YtgccejhdohpojaaNumAll
/- VecUpright: what two units are crossed to stands upright on both. -/
namespace Go.Ab
open Go Go.Proofs
theorem law16 (nm : Bool → V3 × Unit → Int × Bool) (un : Bool → V3 × Unit → V3 × Bool) (cr : Bool → V3 × V3 × Unit → V3 × Bool) (dt : Bool → V3 × V3 × Unit → Int × Bool) (x0 x1 x2 y0 y1 y2 : Int) :
    fnSum Try.prog { gam := [(42, S0 fun (_ : Unit) => true), (66, S 25 nm), (68, S 25 un), (48, S 25 cr), (46, S 25 dt)] } [] 20 16 (List.map AV.val [.agg #[.int .i64 x0, .int .i64 x1, .int .i64 x2], .agg #[.int .i64 y0, .int .i64 y1, .int .i64 y2]]) [] =
      let a := V3.mk x0 x1 x2; let b := V3.mk y0 y1 y2
      let n := nm false (a, ())
      bif decide (n.1 < 1099511627776) then say true else
      let k := nm n.2 (b, ())
      bif decide (k.1 < 1099511627776) then say true else bif k.2 then say true else
        let u := un k.2 (a, ()); let v := un u.2 (b, ()); let w := cr v.2 (u.1, v.1, ()); let p := dt w.2 (u.1, w.1, ()); let q := dt p.2 (v.1, w.1, ())
        bif !q.2 then bif decide (p.1 ≤ 16) then bif decide (p.1 ≥ -16) then bif decide (q.1 ≤ 16) then say (decide (q.1 ≥ -16)) else sayF else sayF else sayF else sayF := by kernel_rfl
/-- A part of a cross product of parts up to 1. -/
theorem cross_part {a b c d : Int} (ha : -1099511627776 ≤ a ∧ a ≤ 1099511627776) (hb : -1099511627776 ≤ b ∧ b ≤ 1099511627776) (hc : -1099511627776 ≤ c ∧ c ≤ 1099511627776) (hd : -1099511627776 ≤ d ∧ d ≤ 1099511627776) :
    ∃ v, crossPart opsM a b c d false = (v, false) ∧ (-2199023255552 ≤ 2199023255552 * v - 2 * (a * b - c * d) ∧ 2199023255552 * v - 2 * (a * b - c * d) ≤ 2199023255552) ∧ -2199023255556 ≤ v ∧ v ≤ 2199023255556 := by
  obtain ⟨p, e1, s1, s2⟩ := mul_small (a := a) (b := b) (by omega) (by omega)
  obtain ⟨q, e2, t1, t2⟩ := mul_small (a := c) (b := d) (by omega) (by omega)
  have m1 := mul_bound ha hb
  have m2 := mul_bound hc hd
  refine ⟨p - q, ?_, by omega, by omega⟩
  unfold crossPart
  simp only [opsM]
  rw [e1]
  dsimp only
  rw [e2]
  dsimp only
  exact fsub_fine (num_small (by omega) (by omega)) (num_small (by omega) (by omega)) (num_small (by omega) (by omega))
structure Small3 (u : V3) : Prop where
  x : -1099511627776 ≤ u.x ∧ u.x ≤ 1099511627776
  y : -1099511627776 ≤ u.y ∧ u.y ≤ 1099511627776
  z : -1099511627776 ≤ u.z ∧ u.z ≤ 1099511627776
theorem Unit3.small {a u : V3} {n : Int} (h : Unit3 a u n) : Small3 u := ⟨h.bx, h.by', h.bz⟩
theorem cross_ok {u v : V3} (hu : Small3 u) (hv : Small3 v) : ∃ w, vcross opsM false (u, v, ()) = (w, false) ∧
    (-2199023255552 ≤ 2199023255552 * w.x - 2 * (u.y * v.z - u.z * v.y) ∧ 2199023255552 * w.x - 2 * (u.y * v.z - u.z * v.y) ≤ 2199023255552) ∧
    (-2199023255552 ≤ 2199023255552 * w.y - 2 * (u.z * v.x - u.x * v.z) ∧ 2199023255552 * w.y - 2 * (u.z * v.x - u.x * v.z) ≤ 2199023255552) ∧
    (-2199023255552 ≤ 2199023255552 * w.z - 2 * (u.x * v.y - u.y * v.x) ∧ 2199023255552 * w.z - 2 * (u.x * v.y - u.y * v.x) ≤ 2199023255552) ∧
    (-2199023255556 ≤ w.x ∧ w.x ≤ 2199023255556) ∧ (-2199023255556 ≤ w.y ∧ w.y ≤ 2199023255556) ∧ (-2199023255556 ≤ w.z ∧ w.z ≤ 2199023255556) := by
  obtain ⟨x, ex, sx, bx⟩ := cross_part hu.y hv.z hu.z hv.y
  obtain ⟨y, ey, sy, by'⟩ := cross_part hu.z hv.x hu.x hv.z
  obtain ⟨z, ez, sz, bz⟩ := cross_part hu.x hv.y hu.y hv.x
  refine ⟨⟨x, y, z⟩, ?_, sx, sy, sz, bx, by', bz⟩
  unfold vcross vcross0 each3 done3
  dsimp only
  rw [ex]
  dsimp only
  rw [ey]
  dsimp only
  rw [ez]
  rfl
theorem dot_ok {u w : V3} (hu : Small3 u) (hx : -2251799813685248 ≤ w.x ∧ w.x ≤ 2251799813685248) (hy : -2251799813685248 ≤ w.y ∧ w.y ≤ 2251799813685248) (hz : -2251799813685248 ≤ w.z ∧ w.z ≤ 2251799813685248) :
    ∃ p, vdotP opsM false (u, w, ()) = (p, false) ∧ -3298534883328 ≤ 2199023255552 * p - 2 * (u.x * w.x + u.y * w.y + u.z * w.z) ∧ 2199023255552 * p - 2 * (u.x * w.x + u.y * w.y + u.z * w.z) ≤ 3298534883328 := by
  have ux := hu.x
  have uy := hu.y
  have uz := hu.z
  obtain ⟨x, ex, sx1, sx2⟩ := mul_small (a := u.x) (b := w.x) (by omega) hx
  obtain ⟨y, ey, sy1, sy2⟩ := mul_small (a := u.y) (b := w.y) (by omega) hy
  obtain ⟨z, ez, sz1, sz2⟩ := mul_small (a := u.z) (b := w.z) (by omega) hz
  have m1 := mul_bound ux hx
  have m2 := mul_bound uy hy
  have m3 := mul_bound uz hz
  refine ⟨x + y + z, ?_, by omega, by omega⟩
  unfold vdotP
  simp only [opsM]
  rw [ex]
  dsimp only
  rw [ey]
  dsimp only
  rw [fadd_fine (a := x) (b := y) (num_small (by omega) (by omega)) (num_small (by omega) (by omega)) (num_small (by omega) (by omega))]
  dsimp only
  rw [ez]
  dsimp only
  exact fadd_fine (num_small (by omega) (by omega)) (num_small (by omega) (by omega)) (num_small (by omega) (by omega))
theorem upright {u v w : V3} (hu : Small3 u)
    (sx : -2199023255552 ≤ 2199023255552 * w.x - 2 * (u.y * v.z - u.z * v.y) ∧ 2199023255552 * w.x - 2 * (u.y * v.z - u.z * v.y) ≤ 2199023255552)
    (sy : -2199023255552 ≤ 2199023255552 * w.y - 2 * (u.z * v.x - u.x * v.z) ∧ 2199023255552 * w.y - 2 * (u.z * v.x - u.x * v.z) ≤ 2199023255552)
    (sz : -2199023255552 ≤ 2199023255552 * w.z - 2 * (u.x * v.y - u.y * v.x) ∧ 2199023255552 * w.z - 2 * (u.x * v.y - u.y * v.x) ≤ 2199023255552) (t : V3) (ht : Small3 t) (h0 : t.x * (u.y * v.z - u.z * v.y) + t.y * (u.z * v.x - u.x * v.z) + t.z * (u.x * v.y - u.y * v.x) = 0) :
    -3298534883328 ≤ t.x * w.x + t.y * w.y + t.z * w.z ∧ t.x * w.x + t.y * w.y + t.z * w.z ≤ 3298534883328 := by
  have m1 := mul_bound ht.x sx
  have m2 := mul_bound ht.y sy
  have m3 := mul_bound ht.z sz
  have key : t.x * (2199023255552 * w.x - 2 * (u.y * v.z - u.z * v.y)) + t.y * (2199023255552 * w.y - 2 * (u.z * v.x - u.x * v.z)) + t.z * (2199023255552 * w.z - 2 * (u.x * v.y - u.y * v.x)) =
      2199023255552 * (t.x * w.x + t.y * w.y + t.z * w.z) - 2 * (t.x * (u.y * v.z - u.z * v.y) + t.y * (u.z * v.x - u.x * v.z) + t.z * (u.x * v.y - u.y * v.x)) := by grind
  rw [h0] at key
  generalize t.x * w.x + t.y * w.y + t.z * w.z = D at *
  have := hu.x
  omega
theorem VecUpright_calls (x0 x1 x2 y0 y1 y2 : Int) (w : World) :
    Calls Try.prog 16 #[.agg #[.int .i64 x0, .int .i64 x1, .int .i64 x2], .agg #[.int .i64 y0, .int .i64 y1, .int .i64 y2]] w fun e w' => e = .returned (.bool true) ∧ RowKit.Below w.heap.size w w' := by
  have hG : GamOk Try.prog [(42, S0 fun (_ : Unit) => true), (66, S 25 (vnorm opsF)), (68, S 25 (vunit opsF)), (48, S 25 (vcross opsM)), (46, S 25 (vdotP opsM))] := .cons ok42 (.cons ok66 (.cons ok68 (.cons ok48 (.cons ok46 .nil))))
  refine calls_of_sum (E := { gam := [(42, S0 fun (_ : Unit) => true), (66, S 25 (vnorm opsF)), (68, S 25 (vunit opsF)), (48, S 25 (vcross opsM)), (46, S 25 (vdotP opsM))] }) hG (d := 20) (f := 16) (vals := [.agg #[.int .i64 x0, .int .i64 x1, .int .i64 x2], .agg #[.int .i64 y0, .int .i64 y1, .int .i64 y2]]) ?_ w
  rw [law16]
  dsimp only
  rcases hn : vnorm opsF false (⟨x0, x1, x2⟩, ()) with ⟨n, f⟩
  dsimp only
  by_cases h0 : n < 1099511627776
  · rw [decide_eq_true h0]; rfl
  rw [decide_eq_false h0]
  cases f
  · rcases hk : vnorm opsF false (⟨y0, y1, y2⟩, ()) with ⟨k, g⟩
    dsimp only
    by_cases h1 : k < 1099511627776
    · rw [decide_eq_true h1]; rfl
    rw [decide_eq_false h1]
    cases g
    · obtain ⟨u, hu, hU⟩ := vunit_ok hn (by omega)
      obtain ⟨v, hv, hV⟩ := vunit_ok hk (by omega)
      obtain ⟨w, hw, sx, sy, sz, bx, by', bz⟩ := cross_ok hU.small hV.small
      obtain ⟨p, hp, p1, p2⟩ := dot_ok (w := w) hU.small (by omega) (by omega) (by omega)
      obtain ⟨q, hq, q1, q2⟩ := dot_ok (w := w) hV.small (by omega) (by omega) (by omega)
      obtain ⟨d1, d2⟩ := upright hU.small sx sy sz u hU.small (by grind)
      obtain ⟨e1, e2⟩ := upright hU.small sx sy sz v hV.small (by grind)
      simp only [cond_false]
      rw [hu]
      dsimp only
      rw [hv]
      dsimp only
      rw [hw]
      dsimp only
      rw [hp]
      dsimp only
      rw [hq]
      dsimp only
      rw [decide_eq_true (p := p ≤ 16) (by omega), decide_eq_true (p := p ≥ -16) (by omega), decide_eq_true (p := q ≤ 16) (by omega), decide_eq_true (p := q ≥ -16) (by omega)]
      rfl
    · rfl
  · have hbad : vnorm opsF true (⟨y0, y1, y2⟩, ()) = (0, true) := rfl
    rw [hbad]
    rfl
end Go.Ab
