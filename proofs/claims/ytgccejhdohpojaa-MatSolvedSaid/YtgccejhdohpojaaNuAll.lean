/- A part of the proofs: lemmas, no statement of their own; no condition. -/
import Derived.Test.YtgccejhdohpojaaNumAll
import Derived.Test.YtgccejhdohpojaaQtAll
import Derived.Test.YtgccejhdohpojaaLvUpright
/- Turns: how far they are off. -/
namespace Go.Ab
open Go Go.Proofs
/-- Parts up to K. -/
structure Up (K : Int) (v : V3) : Prop where
  x : -K ≤ v.x ∧ v.x ≤ K
  y : -K ≤ v.y ∧ v.y ≤ K
  z : -K ≤ v.z ∧ v.z ≤ K
theorem Up.mono {K L : Int} {v : V3} (h : Up K v) (hk : K ≤ L) : Up L v := by
  have hx := h.x
  have hy := h.y
  have hz := h.z
  exact ⟨by omega, by omega, by omega⟩
abbrev O : Int := 1099511627776
theorem cross_gen {a b c d K : Int} (hK : K ≤ 140737488355328) (ha : -1099511628800 ≤ a ∧ a ≤ 1099511628800) (hb : -K ≤ b ∧ b ≤ K) (hc : -1099511628800 ≤ c ∧ c ≤ 1099511628800) (hd : -K ≤ d ∧ d ≤ K) :
    ∃ v, crossPart opsM a b c d false = (v, false) ∧ (-1099511627776 ≤ 1099511627776 * v - (a * b - c * d) ∧ 1099511627776 * v - (a * b - c * d) ≤ 1099511627776) ∧ -(3 * K + 2) ≤ v ∧ v ≤ 3 * K + 2 := by
  obtain ⟨p, e1, s1, s2⟩ := mul_small (a := a) (b := b) (by omega) (by omega)
  obtain ⟨q, e2, t1, t2⟩ := mul_small (a := c) (b := d) (by omega) (by omega)
  have m1 := mul_bound ha hb
  have m2 := mul_bound hc hd
  refine ⟨p - q, ?_, by omega, by omega⟩
  unfold crossPart
  simp only [opsM]
  rw [e1]
  dsimp only
  rw [e2]
  dsimp only
  exact fsub_fine (num_small (by omega) (by omega)) (num_small (by omega) (by omega)) (num_small (by omega) (by omega))
/-- The cross product, exact. -/
def W3 (u v : V3) : V3 := ⟨u.y * v.z - u.z * v.y, u.z * v.x - u.x * v.z, u.x * v.y - u.y * v.x⟩
theorem vcross_gen {u v : V3} {K : Int} (hK : K ≤ 140737488355328) (hu : Up 1099511628800 u) (hv : Up K v) : ∃ w, vcross opsM false (u, v, ()) = (w, false) ∧
    (-1099511627776 ≤ 1099511627776 * w.x - (W3 u v).x ∧ 1099511627776 * w.x - (W3 u v).x ≤ 1099511627776) ∧
    (-1099511627776 ≤ 1099511627776 * w.y - (W3 u v).y ∧ 1099511627776 * w.y - (W3 u v).y ≤ 1099511627776) ∧
    (-1099511627776 ≤ 1099511627776 * w.z - (W3 u v).z ∧ 1099511627776 * w.z - (W3 u v).z ≤ 1099511627776) ∧ Up (3 * K + 2) w := by
  obtain ⟨x, ex, sx, bx⟩ := cross_gen hK hu.y hv.z hu.z hv.y
  obtain ⟨y, ey, sy, by'⟩ := cross_gen hK hu.z hv.x hu.x hv.z
  obtain ⟨z, ez, sz, bz⟩ := cross_gen hK hu.x hv.y hu.y hv.x
  refine ⟨⟨x, y, z⟩, ?_, sx, sy, sz, ⟨bx, by', bz⟩⟩
  unfold vcross vcross0 each3 done3
  dsimp only
  rw [ex]
  dsimp only
  rw [ey]
  dsimp only
  rw [ez]
  rfl
theorem vscale_gen {u : V3} {k K : Int} (hK : K ≤ 2251799813685248) (hu : Up K u) (hk : -2251799813685248 ≤ k ∧ k ≤ 2251799813685248) : ∃ w, vscale fmul false (u, k, ()) = (w, false) ∧
    (2 * (u.x * k) - 1099511627776 ≤ 2199023255552 * w.x ∧ 2199023255552 * w.x ≤ 2 * (u.x * k) + 1099511627776) ∧
    (2 * (u.y * k) - 1099511627776 ≤ 2199023255552 * w.y ∧ 2199023255552 * w.y ≤ 2 * (u.y * k) + 1099511627776) ∧
    (2 * (u.z * k) - 1099511627776 ≤ 2199023255552 * w.z ∧ 2199023255552 * w.z ≤ 2 * (u.z * k) + 1099511627776) := by
  have ux := hu.x
  have uy := hu.y
  have uz := hu.z
  obtain ⟨x, ex, sx⟩ := mul_small (a := u.x) (b := k) (by omega) hk
  obtain ⟨y, ey, sy⟩ := mul_small (a := u.y) (b := k) (by omega) hk
  obtain ⟨z, ez, sz⟩ := mul_small (a := u.z) (b := k) (by omega) hk
  refine ⟨⟨x, y, z⟩, ?_, sx, sy, sz⟩
  unfold vscale each3 done3
  dsimp only
  rw [ex]
  dsimp only
  rw [ey]
  dsimp only
  rw [ez]
  rfl
theorem vadd_gen {u v : V3} (hu : Up 1152921504606846976 u) (hv : Up 1152921504606846976 v) : vop fadd false (u, v, ()) = (⟨u.x + v.x, u.y + v.y, u.z + v.z⟩, false) := by
  have ux := hu.x
  have uy := hu.y
  have uz := hu.z
  have vx := hv.x
  have vy := hv.y
  have vz := hv.z
  unfold vop each3 done3
  dsimp only
  rw [fadd_fine (a := u.x) (b := v.x) (num_small (by omega) (by omega)) (num_small (by omega) (by omega)) (num_small (by omega) (by omega))]
  dsimp only
  rw [fadd_fine (a := u.y) (b := v.y) (num_small (by omega) (by omega)) (num_small (by omega) (by omega)) (num_small (by omega) (by omega))]
  dsimp only
  rw [fadd_fine (a := u.z) (b := v.z) (num_small (by omega) (by omega)) (num_small (by omega) (by omega)) (num_small (by omega) (by omega))]
  rfl
theorem vsub_gen {u v : V3} (hu : Up 1152921504606846976 u) (hv : Up 1152921504606846976 v) : vop fsub false (u, v, ()) = (⟨u.x - v.x, u.y - v.y, u.z - v.z⟩, false) := by
  have ux := hu.x
  have uy := hu.y
  have uz := hu.z
  have vx := hv.x
  have vy := hv.y
  have vz := hv.z
  unfold vop each3 done3
  dsimp only
  rw [fsub_fine (a := u.x) (b := v.x) (num_small (by omega) (by omega)) (num_small (by omega) (by omega)) (num_small (by omega) (by omega))]
  dsimp only
  rw [fsub_fine (a := u.y) (b := v.y) (num_small (by omega) (by omega)) (num_small (by omega) (by omega)) (num_small (by omega) (by omega))]
  dsimp only
  rw [fsub_fine (a := u.z) (b := v.z) (num_small (by omega) (by omega)) (num_small (by omega) (by omega)) (num_small (by omega) (by omega))]
  rfl
/-- A turn, exact, by 2^80. -/
def T3 (a : V3) (s : Int) (v : V3) : V3 :=
  ⟨1208925819614629174706176 * v.x - 2 * (s * (W3 a v).x) + 2 * (W3 a (W3 a v)).x, 1208925819614629174706176 * v.y - 2 * (s * (W3 a v).y) + 2 * (W3 a (W3 a v)).y, 1208925819614629174706176 * v.z - 2 * (s * (W3 a v).z) + 2 * (W3 a (W3 a v)).z⟩
/-- How far a number is off, in 2^80. -/
def Off (r t K : Int) : Prop := -K ≤ 1208925819614629174706176 * r - t ∧ 1208925819614629174706176 * r - t ≤ K
/-- One part of a turn. -/
theorem turn_part {ay az s wx wy wz cx cy cz w y v : Int} (hay : -1099511628800 ≤ ay ∧ ay ≤ 1099511628800) (haz : -1099511628800 ≤ az ∧ az ≤ 1099511628800) (hs : -1099511628800 ≤ s ∧ s ≤ 1099511628800)
    (ex : -1099511627776 ≤ 1099511627776 * cx - wx ∧ 1099511627776 * cx - wx ≤ 1099511627776) (ey : -1099511627776 ≤ 1099511627776 * cy - wy ∧ 1099511627776 * cy - wy ≤ 1099511627776) (ez : -1099511627776 ≤ 1099511627776 * cz - wz ∧ 1099511627776 * cz - wz ≤ 1099511627776)
    (h1 : 2 * (2 * cx * s) - 1099511627776 ≤ 2199023255552 * w ∧ 2199023255552 * w ≤ 2 * (2 * cx * s) + 1099511627776) (h2 : -1099511627776 ≤ 1099511627776 * y - (ay * (2 * cz) - az * (2 * cy)) ∧ 1099511627776 * y - (ay * (2 * cz) - az * (2 * cy)) ≤ 1099511627776) :
    Off (v - w + y) (1208925819614629174706176 * v - 2 * (s * wx) + 2 * (ay * wz - az * wy)) 9671406556917033397649408 := by
  have m1 := mul_bound hs ex
  have m2 := mul_bound hay ez
  have m3 := mul_bound haz ey
  have key : 1208925819614629174706176 * (v - w + y) - (1208925819614629174706176 * v - 2 * (s * wx) + 2 * (ay * wz - az * wy)) =
      -(2 * (s * (1099511627776 * cx - wx))) - 1099511627776 * (1099511627776 * w - 2 * cx * s) + 2 * (ay * (1099511627776 * cz - wz)) - 2 * (az * (1099511627776 * cy - wy)) + 1099511627776 * (1099511627776 * y - (ay * (2 * cz) - az * (2 * cy))) := by grind
  unfold Off
  rw [key]
  omega
end Go.Ab
/- Turns: how far they are off, together. -/
namespace Go.Ab
open Go Go.Proofs
theorem turn_ok {u : V4} {v : V3} {K : Int} (hK : K ≤ 17592186044416) (hK0 : 0 ≤ K) (hu : Up 1099511628800 u.v) (hs : -1099511628800 ≤ u.s ∧ u.s ≤ 1099511628800) (hv : Up K v) :
    ∃ r, qturn vopsF false (u, v, ()) = (r, false) ∧ Off r.x (T3 u.v u.s v).x 9671406556917033397649408 ∧ Off r.y (T3 u.v u.s v).y 9671406556917033397649408 ∧ Off r.z (T3 u.v u.s v).z 9671406556917033397649408 := by
  obtain ⟨c, ec, cx, cy, cz, hc⟩ := vcross_gen (by omega) hu hv
  obtain ⟨t, et, tx, ty, tz⟩ := vscale_gen (k := 2199023255552) (by omega) hc (by omega)
  obtain ⟨t1, t2, t3⟩ : t.x = 2 * c.x ∧ t.y = 2 * c.y ∧ t.z = 2 * c.z := by omega
  have hcx := hc.x
  have hcy := hc.y
  have hcz := hc.z
  have ht : Up (6 * K + 4) t := ⟨by omega, by omega, by omega⟩
  obtain ⟨w, ew, wx, wy, wz⟩ := vscale_gen (k := u.s) (by omega) ht (by omega)
  obtain ⟨y, ey, yx, yy, yz, hy⟩ := vcross_gen (by omega) hu ht
  have vx := hv.x
  have vy := hv.y
  have vz := hv.z
  have hwb : Up (7 * K + 8) w := by
    have m1 := mul_bound ht.x hs
    have m2 := mul_bound ht.y hs
    have m3 := mul_bound ht.z hs
    exact ⟨by omega, by omega, by omega⟩
  have hwx := hwb.x
  have hwy := hwb.y
  have hwz := hwb.z
  have hyx := hy.x
  have hyy := hy.y
  have hyz := hy.z
  have ex := vsub_gen (u := v) (v := w) ⟨by omega, by omega, by omega⟩ ⟨by omega, by omega, by omega⟩
  have er := vadd_gen (u := ⟨v.x - w.x, v.y - w.y, v.z - w.z⟩) (v := y) ⟨by show _ ≤ v.x - w.x ∧ v.x - w.x ≤ _; omega, by show _ ≤ v.y - w.y ∧ v.y - w.y ≤ _; omega, by show _ ≤ v.z - w.z ∧ v.z - w.z ≤ _; omega⟩ ⟨by omega, by omega, by omega⟩
  refine ⟨⟨v.x - w.x + y.x, v.y - w.y + y.y, v.z - w.z + y.z⟩, ?_, ?_, ?_, ?_⟩
  · unfold qturn
    simp only [vopsF]
    rw [ec]
    dsimp only
    rw [et]
    dsimp only
    rw [ew]
    dsimp only
    rw [ex]
    dsimp only
    rw [ey]
    dsimp only
    exact er
  · rw [t1] at wx
    have h2 : (W3 u.v t).x = u.v.y * (2 * c.z) - u.v.z * (2 * c.y) := by unfold W3; rw [t2, t3]
    rw [h2] at yx
    exact turn_part hu.y hu.z hs cx cy cz wx yx
  · rw [t2] at wy
    have h2 : (W3 u.v t).y = u.v.z * (2 * c.x) - u.v.x * (2 * c.z) := by unfold W3; rw [t1, t3]
    rw [h2] at yy
    exact turn_part hu.z hu.x hs cy cz cx wy yy
  · rw [t3] at wz
    have h2 : (W3 u.v t).z = u.v.x * (2 * c.y) - u.v.y * (2 * c.x) := by unfold W3; rw [t1, t2]
    rw [h2] at yz
    exact turn_part hu.x hu.y hs cz cx cy wz yz
theorem turn_unit {u : V4} {v : V3} {K : Int} (hK : K ≤ 17592186044416) (hK0 : 0 ≤ K) (hu : Up 1099511627776 u.v) (hs : -1099511627776 ≤ u.s ∧ u.s ≤ 1099511627776) (hv : Up K v) :
    ∃ r, qturn vopsF false (u, v, ()) = (r, false) ∧ Off r.x (T3 u.v u.s v).x 9671406556917033397649408 ∧ Off r.y (T3 u.v u.s v).y 9671406556917033397649408 ∧ Off r.z (T3 u.v u.s v).z 9671406556917033397649408 :=
  turn_ok hK hK0 (hu.mono (by omega)) (by omega) hv
/-- An attitude of length 1, but for little. -/
structure QU (u : V4) : Prop where
  v : Up 1099511627776 u.v
  s : -1099511627776 ≤ u.s ∧ u.s ≤ 1099511627776
  lo : 1208925819614629174706176 - 16492674416640 ≤ u.v.x * u.v.x + u.v.y * u.v.y + u.v.z * u.v.z + u.s * u.s
  hi : u.v.x * u.v.x + u.v.y * u.v.y + u.v.z * u.v.z + u.s * u.s ≤ 1208925819614629174706176 + 16492674416640
theorem quad_sq {a b c d r s t w n : Int} (hr : 2199023255552 * a - n ≤ 2 * n * r ∧ 2 * n * r ≤ 2199023255552 * a + n) (hs : 2199023255552 * b - n ≤ 2 * n * s ∧ 2 * n * s ≤ 2199023255552 * b + n)
    (ht : 2199023255552 * c - n ≤ 2 * n * t ∧ 2 * n * t ≤ 2199023255552 * c + n) (hw : 2199023255552 * d - n ≤ 2 * n * w ∧ 2 * n * w ≤ 2199023255552 * d + n)
    (pa : -n ≤ a ∧ a ≤ n) (pb : -n ≤ b ∧ b ≤ n) (pc : -n ≤ c ∧ c ≤ n) (pd : -n ≤ d ∧ d ≤ n) :
    n * n * (4 * (r * r + s * s + t * t + w * w)) ≤ 4835703278458516698824704 * (a * a + b * b + c * c + d * d) + n * n * 17592186044420 ∧
    4835703278458516698824704 * (a * a + b * b + c * c + d * d) - n * n * 17592186044416 ≤ n * n * (4 * (r * r + s * s + t * t + w * w)) := by
  obtain ⟨X, hX⟩ : ∃ X, X = 2 * n * r - 2199023255552 * a := ⟨_, rfl⟩
  obtain ⟨Y, hY⟩ : ∃ Y, Y = 2 * n * s - 2199023255552 * b := ⟨_, rfl⟩
  obtain ⟨Z, hZ⟩ : ∃ Z, Z = 2 * n * t - 2199023255552 * c := ⟨_, rfl⟩
  obtain ⟨V, hV⟩ : ∃ V, V = 2 * n * w - 2199023255552 * d := ⟨_, rfl⟩
  have bX : -n ≤ X ∧ X ≤ n := by omega
  have bY : -n ≤ Y ∧ Y ≤ n := by omega
  have bZ : -n ≤ Z ∧ Z ≤ n := by omega
  have bV : -n ≤ V ∧ V ≤ n := by omega
  have m1 := mul_bound pa bX
  have m2 := mul_bound pb bY
  have m3 := mul_bound pc bZ
  have m4 := mul_bound pd bV
  have q1 := mul_bound bX bX
  have q2 := mul_bound bY bY
  have q3 := mul_bound bZ bZ
  have q4 := mul_bound bV bV
  have s1 := sq_nonneg X
  have s2 := sq_nonneg Y
  have s3 := sq_nonneg Z
  have s4 := sq_nonneg V
  have one : ∀ x y e : Int, e = 2 * n * x - 2199023255552 * y → n * n * (4 * (x * x)) = 4835703278458516698824704 * (y * y) + 4398046511104 * (y * e) + e * e := by
    intro x y e he
    have h2 : 2 * n * x = e + 2199023255552 * y := by omega
    have h3 : n * n * (4 * (x * x)) = (2 * n * x) * (2 * n * x) := by grind
    rw [h3, h2]
    grind
  have e1 := one r a X hX
  have e2 := one s b Y hY
  have e3 := one t c Z hZ
  have e4 := one w d V hV
  have key : n * n * (4 * (r * r + s * s + t * t + w * w)) = n * n * (4 * (r * r)) + n * n * (4 * (s * s)) + n * n * (4 * (t * t)) + n * n * (4 * (w * w)) := by grind
  rw [key, e1, e2, e3, e4]
  generalize n * n = P at *
  omega
end Go.Ab
/- Attitudes of any four numbers: how long they are. -/
namespace Go.Ab
open Go Go.Proofs
theorem wrap_neg {r : Int} (h : -1099511627776 ≤ r ∧ r ≤ 1099511627776) : IntKind.i64.wrap (0 - r) = -r := by
  rw [wrap_i64_id (by omega) (by omega)]; omega
theorem qunit_ok {q u : V4} (h : qunit opsF false (q, ()) = (u, false)) : QU u := by
  unfold qunit at h
  rcases hn : qlen opsF false q with ⟨n, f⟩
  rw [hn] at h
  dsimp only at h
  have hbad : ∀ m, qunitF opsF q m true = (V4.zero, true) := fun m => rfl
  by_cases h0 : n < 549755813888
  · rw [decide_eq_true h0, cond_true, hbad] at h
    simp at h
  rw [decide_eq_false h0, cond_false] at h
  cases f with
  | true => rw [hbad] at h; simp at h
  | false =>
    obtain ⟨_, ⟨a1, a2, a3, a4⟩, p1, p2, p3, p4, n0, n1⟩ := qlen_ok hn
    have hnn : num n = true := num_iff.2 (by omega)
    obtain ⟨r, er, sr, br⟩ := div_unit a1 (by omega) hnn p1
    obtain ⟨s, es, ss, bs⟩ := div_unit a2 (by omega) hnn p2
    obtain ⟨t, et, st, bt⟩ := div_unit a3 (by omega) hnn p3
    obtain ⟨w, ew, sw, bw⟩ := div_unit a4 (by omega) hnn p4
    have e0 : qunit0 opsF q n false = (⟨r, s, t, w⟩, false) := by
      unfold qunit0
      simp only [opsF]
      rw [er]
      dsimp only
      rw [es]
      dsimp only
      rw [et]
      dsimp only
      rw [ew]
    unfold qunitF at h
    rw [e0] at h
    simp only [Prod.mk.injEq, and_true] at h
    -- the square of the length
    have hsum : 1208925819614629174706176 - 16492674416640 ≤ r * r + s * s + t * t + w * w ∧ r * r + s * s + t * t + w * w ≤ 1208925819614629174706176 + 16492674416640 := by
      have hn' : fnorm (fnorm false q.w q.x q.y).2 (fnorm false q.w q.x q.y).1 q.z 0 = (n, false) := hn
      rcases hm : fnorm false q.w q.x q.y with ⟨m, g⟩
      rw [hm] at hn'
      cases g with
      | true => rw [fnorm_still] at hn'; simp at hn'
      | false =>
        obtain ⟨m1, m2, _⟩ := fnorm_sq hm
        obtain ⟨k1, k2, _⟩ := fnorm_sq hn'
        obtain ⟨l1, _, _⟩ := fnorm_parts hn'
        obtain ⟨_, _, _, _, m0, _⟩ := fnorm_ok hm
        obtain ⟨c1, c2⟩ := quad_sq sr ss st sw p1 p2 p3 p4
        have e1 : (m + 1) * (m + 1) = m * m + (2 * m + 1) := by grind
        have e2 : (n + 1) * (n + 1) = n * n + (2 * n + 1) := by grind
        dsimp only at k1 k2
        rw [e1] at m2
        rw [e2] at k2
        have hp : 0 < n * n := Int.mul_pos (by omega) (by omega)
        have hq : 1208925819614629174706176 * (4 * n + 1) ≤ n * n * 10995116277760 := by
          have g1 : n * n * 10995116277760 = 1099511627776 * (2 * n) * (5 * n) := by grind
          have g2 : 1099511627776 * 1099511627776 * (5 * n) ≤ 1099511627776 * (2 * n) * (5 * n) := Int.mul_le_mul_of_nonneg_right (by omega) (by omega)
          omega
        generalize r * r + s * s + t * t + w * w = U at *
        have hU : 4 * U ≤ 4835703278458516698824704 + 61572651155460 := by
          refine le_of_mul2 hp ?_
          have : n * n * (4835703278458516698824704 + 61572651155460) = 4835703278458516698824704 * (n * n) + 4 * (n * n * 10995116277760) + n * n * 17592186044420 := by grind
          rw [this]
          omega
        have hL : 4835703278458516698824704 - 17592186044416 ≤ 4 * U := by
          refine le_of_mul2 hp ?_
          have : n * n * (4835703278458516698824704 - 17592186044416) = 4835703278458516698824704 * (n * n) - n * n * 17592186044416 := by grind
          rw [this]
          omega
        omega
    rw [← h]
    unfold plain
    dsimp only
    cases decide (w < 0) with
    | false => exact ⟨⟨br, bs, bt⟩, bw, hsum.1, hsum.2⟩
    | true =>
      have hneg : neg4 ⟨r, s, t, w⟩ = ⟨-r, -s, -t, -w⟩ := by
        unfold neg4
        dsimp only
        rw [wrap_neg br, wrap_neg bs, wrap_neg bt, wrap_neg bw]
      rw [cond_true, hneg]
      have g : ∀ x : Int, -x * -x = x * x := fun x => Int.neg_mul_neg x x
      refine ⟨⟨by show _ ≤ -r ∧ -r ≤ _; omega, by show _ ≤ -s ∧ -s ≤ _; omega, by show _ ≤ -t ∧ -t ≤ _; omega⟩, by show _ ≤ -w ∧ -w ≤ _; omega, ?_, ?_⟩
      · show _ ≤ -r * -r + -s * -s + -t * -t + -w * -w
        rw [g, g, g, g]; exact hsum.1
      · show -r * -r + -s * -s + -t * -t + -w * -w ≤ _
        rw [g, g, g, g]; exact hsum.2
end Go.Ab
/- A turn, and back: the exact laws. -/
namespace Go.Ab
open Go Go.Proofs
abbrev O2 : Int := 1208925819614629174706176
abbrev neg3v (a : V3) : V3 := ⟨-a.x, -a.y, -a.z⟩
def len2 (a : V3) : Int := a.x * a.x + a.y * a.y + a.z * a.z
/-- What a turn back makes of a turn. -/
theorem back_x (a v : V3) (s : Int) : (T3 (neg3v a) s (T3 a s v)).x = O2 * O2 * v.x + 4 * ((O2 - (len2 a + s * s)) * (W3 a (W3 a v)).x) := by
  simp only [T3, W3, O2, len2]
  grind
theorem back_y (a v : V3) (s : Int) : (T3 (neg3v a) s (T3 a s v)).y = O2 * O2 * v.y + 4 * ((O2 - (len2 a + s * s)) * (W3 a (W3 a v)).y) := by
  simp only [T3, W3, O2, len2]
  grind
theorem back_z (a v : V3) (s : Int) : (T3 (neg3v a) s (T3 a s v)).z = O2 * O2 * v.z + 4 * ((O2 - (len2 a + s * s)) * (W3 a (W3 a v)).z) := by
  simp only [T3, W3, O2, len2]
  grind
/-- The square of a turn's length. -/
theorem turn_len (a v : V3) (s : Int) : len2 (T3 a s v) = O2 * O2 * len2 v + 4 * (len2 (W3 a v) * (len2 a + s * s - O2)) := by
  simp only [T3, W3, O2, len2]
  grind
theorem lagrange (a v : V3) : len2 (W3 a v) + (a.x * v.x + a.y * v.y + a.z * v.z) * (a.x * v.x + a.y * v.y + a.z * v.z) = len2 a * len2 v := by
  simp only [W3, len2]
  grind
theorem T3_off_x (a t T : V3) (s : Int) : O2 * (T3 a s t).x = (T3 a s T).x + (T3 a s ⟨O2 * t.x - T.x, O2 * t.y - T.y, O2 * t.z - T.z⟩).x := by
  simp only [T3, W3, O2]
  grind
theorem T3_off_y (a t T : V3) (s : Int) : O2 * (T3 a s t).y = (T3 a s T).y + (T3 a s ⟨O2 * t.x - T.x, O2 * t.y - T.y, O2 * t.z - T.z⟩).y := by
  simp only [T3, W3, O2]
  grind
theorem T3_off_z (a t T : V3) (s : Int) : O2 * (T3 a s t).z = (T3 a s T).z + (T3 a s ⟨O2 * t.x - T.x, O2 * t.y - T.y, O2 * t.z - T.z⟩).z := by
  simp only [T3, W3, O2]
  grind
theorem W3_bound {a v : V3} {K L : Int} (ha : Up K a) (hv : Up L v) : Up (2 * (K * L)) (W3 a v) := by
  have m1 := mul_bound ha.y hv.z
  have m2 := mul_bound ha.z hv.y
  have m3 := mul_bound ha.z hv.x
  have m4 := mul_bound ha.x hv.z
  have m5 := mul_bound ha.x hv.y
  have m6 := mul_bound ha.y hv.x
  exact ⟨by show _ ≤ a.y * v.z - a.z * v.y ∧ a.y * v.z - a.z * v.y ≤ _; omega, by show _ ≤ a.z * v.x - a.x * v.z ∧ a.z * v.x - a.x * v.z ≤ _; omega, by show _ ≤ a.x * v.y - a.y * v.x ∧ a.x * v.y - a.y * v.x ≤ _; omega⟩
theorem T3_bound {a v : V3} {s L : Int} (ha : Up 1099511627776 a) (hs : -1099511627776 ≤ s ∧ s ≤ 1099511627776) (hv : Up L v) : Up (13 * (O2 * L)) (T3 a s v) := by
  have w := W3_bound ha hv
  have ww := W3_bound ha w
  have m1 := mul_bound hs w.x
  have m2 := mul_bound hs w.y
  have m3 := mul_bound hs w.z
  have e1 : 1099511627776 * (2 * (1099511627776 * L)) = 2 * (O2 * L) := by simp only [O2]; grind
  have e2 : 2 * (1099511627776 * (2 * (1099511627776 * L))) = 4 * (O2 * L) := by simp only [O2]; grind
  rw [e1] at m1 m2 m3
  rw [e2] at ww
  have vx := hv.x
  have vy := hv.y
  have vz := hv.z
  have wx := ww.x
  have wy := ww.y
  have wz := ww.z
  simp only [O2] at *
  refine ⟨?_, ?_, ?_⟩
  · show _ ≤ 1208925819614629174706176 * v.x - 2 * (s * (W3 a v).x) + 2 * (W3 a (W3 a v)).x ∧ 1208925819614629174706176 * v.x - 2 * (s * (W3 a v).x) + 2 * (W3 a (W3 a v)).x ≤ _
    omega
  · show _ ≤ 1208925819614629174706176 * v.y - 2 * (s * (W3 a v).y) + 2 * (W3 a (W3 a v)).y ∧ 1208925819614629174706176 * v.y - 2 * (s * (W3 a v).y) + 2 * (W3 a (W3 a v)).y ≤ _
    omega
  · show _ ≤ 1208925819614629174706176 * v.z - 2 * (s * (W3 a v).z) + 2 * (W3 a (W3 a v)).z ∧ 1208925819614629174706176 * v.z - 2 * (s * (W3 a v).z) + 2 * (W3 a (W3 a v)).z ≤ _
    omega
theorem Up.neg {K : Int} {a : V3} (h : Up K a) : Up K (neg3v a) := by
  have hx := h.x
  have hy := h.y
  have hz := h.z
  exact ⟨by show _ ≤ -a.x ∧ -a.x ≤ _; omega, by show _ ≤ -a.y ∧ -a.y ≤ _; omega, by show _ ≤ -a.z ∧ -a.z ≤ _; omega⟩
/-- Three parts off. -/
structure Off3 (r t : V3) (K : Int) : Prop where
  x : Off r.x t.x K
  y : Off r.y t.y K
  z : Off r.z t.z K
/-- What is turned back is what it was. -/
theorem near_back {u : V4} {v t b : V3} (hu : QU u) (hv : Up 1099511627776 v) (ht : Off3 t (T3 u.v u.s v) 9671406556917033397649408) (hb : Off3 b (T3 (neg3v u.v) u.s t) 9671406556917033397649408) :
    (-352 ≤ b.x - v.x ∧ b.x - v.x ≤ 352) ∧ (-352 ≤ b.y - v.y ∧ b.y - v.y ≤ 352) ∧ (-352 ≤ b.z - v.z ∧ b.z - v.z ≤ 352) := by
  have he : Up 9671406556917033397649408 ⟨O2 * t.x - (T3 u.v u.s v).x, O2 * t.y - (T3 u.v u.s v).y, O2 * t.z - (T3 u.v u.s v).z⟩ := ⟨ht.x, ht.y, ht.z⟩
  have hE := T3_bound hu.v.neg hu.s he
  have hw := W3_bound hu.v (W3_bound hu.v hv)
  have hd : -16492674416640 ≤ O2 - (len2 u.v + u.s * u.s) ∧ O2 - (len2 u.v + u.s * u.s) ≤ 16492674416640 := by
    have h1 := hu.lo
    have h2 := hu.hi
    simp only [len2, O2]
    omega
  have m1 := mul_bound hd hw.x
  have m2 := mul_bound hd hw.y
  have m3 := mul_bound hd hw.z
  have bx := hb.x
  have by' := hb.y
  have bz := hb.z
  have ex := hE.x
  have ey := hE.y
  have ez := hE.z
  unfold Off at bx by' bz
  have kx := T3_off_x (neg3v u.v) t (T3 u.v u.s v) u.s
  have ky := T3_off_y (neg3v u.v) t (T3 u.v u.s v) u.s
  have kz := T3_off_z (neg3v u.v) t (T3 u.v u.s v) u.s
  rw [back_x] at kx
  rw [back_y] at ky
  rw [back_z] at kz
  simp only [O2] at *
  omega
end Go.Ab
/- A turn keeps a length. -/
namespace Go.Ab
open Go Go.Proofs
theorem keeps_len {u : V4} {v t : V3} {p q : Int} (hu : QU u) (hv : Up 1099511627776 v) (ht : Off3 t (T3 u.v u.s v) 9671406556917033397649408)
    (p0 : 0 ≤ p) (q0 : 0 ≤ q) (hp1 : p * p ≤ len2 v) (hp2 : len2 v < (p + 1) * (p + 1)) (hq1 : q * q ≤ len2 t) (hq2 : len2 t < (q + 1) * (q + 1)) : -1024 ≤ q - p ∧ q - p ≤ 1024 := by
  obtain ⟨X, hX⟩ : ∃ X, X = O2 * t.x - (T3 u.v u.s v).x := ⟨_, rfl⟩
  obtain ⟨Y, hY⟩ : ∃ Y, Y = O2 * t.y - (T3 u.v u.s v).y := ⟨_, rfl⟩
  obtain ⟨Z, hZ⟩ : ∃ Z, Z = O2 * t.z - (T3 u.v u.s v).z := ⟨_, rfl⟩
  have bX : -9671406556917033397649408 ≤ X ∧ X ≤ 9671406556917033397649408 := by rw [hX]; exact ht.x
  have bY : -9671406556917033397649408 ≤ Y ∧ Y ≤ 9671406556917033397649408 := by rw [hY]; exact ht.y
  have bZ : -9671406556917033397649408 ≤ Z ∧ Z ≤ 9671406556917033397649408 := by rw [hZ]; exact ht.z
  have sx := sq_nonneg t.x
  have sy := sq_nonneg t.y
  have sz := sq_nonneg t.z
  have tx : -q ≤ t.x ∧ t.x ≤ q := le_of_sq_lt q0 (by unfold len2 at hq2; omega)
  have ty : -q ≤ t.y ∧ t.y ≤ q := le_of_sq_lt q0 (by unfold len2 at hq2; omega)
  have tz : -q ≤ t.z ∧ t.z ≤ q := le_of_sq_lt q0 (by unfold len2 at hq2; omega)
  have m1 := mul_bound tx bX
  have m2 := mul_bound ty bY
  have m3 := mul_bound tz bZ
  have q1 := mul_bound bX bX
  have q2 := mul_bound bY bY
  have q3 := mul_bound bZ bZ
  have n1 := sq_nonneg X
  have n2 := sq_nonneg Y
  have n3 := sq_nonneg Z
  -- the square of the turn's length
  have key : O2 * O2 * len2 t = len2 (T3 u.v u.s v) + 2 * (O2 * (t.x * X + t.y * Y + t.z * Z)) - (X * X + Y * Y + Z * Z) := by
    have e1 : (T3 u.v u.s v).x = O2 * t.x - X := by omega
    have e2 : (T3 u.v u.s v).y = O2 * t.y - Y := by omega
    have e3 : (T3 u.v u.s v).z = O2 * t.z - Z := by omega
    unfold len2
    rw [e1, e2, e3]
    simp only [O2]
    grind
  rw [turn_len] at key
  have lo := hu.lo
  have hi := hu.hi
  have hd : -16492674416640 ≤ len2 u.v + u.s * u.s - O2 ∧ len2 u.v + u.s * u.s - O2 ≤ 16492674416640 := by
    simp only [len2, O2]; omega
  have ss := sq_nonneg u.s
  have hw0 : 0 ≤ len2 (W3 u.v v) := by
    have a1 := sq_nonneg (W3 u.v v).x
    have a2 := sq_nonneg (W3 u.v v).y
    have a3 := sq_nonneg (W3 u.v v).z
    unfold len2; omega
  have hv0 : 0 ≤ len2 v := by
    have a1 := sq_nonneg v.x
    have a2 := sq_nonneg v.y
    have a3 := sq_nonneg v.z
    unfold len2; omega
  have hv3 : len2 v ≤ 3626777458843887524118528 := by
    have a1 := mul_bound hv.x hv.x
    have a2 := mul_bound hv.y hv.y
    have a3 := mul_bound hv.z hv.z
    unfold len2; omega
  have hp3 : p ≤ 2199023255552 := by
    have : p < 2199023255552 := sq_lt_imp (by omega) (by omega)
    omega
  have hv1 : len2 v ≤ 3298534883328 * (p + 1) := by
    have : (p + 1) * (p + 1) ≤ 3298534883328 * (p + 1) := Int.mul_le_mul_of_nonneg_right (by omega) (by omega)
    omega
  have hwle : len2 (W3 u.v v) ≤ 2417851639229258349412352 * len2 v := by
    have h1 := lagrange u.v v
    have h2 := sq_nonneg (u.v.x * v.x + u.v.y * v.y + u.v.z * v.z)
    have h3 : len2 u.v ≤ 2417851639229258349412352 := by simp only [O2] at hd; omega
    have h4 : len2 u.v * len2 v ≤ 2417851639229258349412352 * len2 v := Int.mul_le_mul_of_nonneg_right h3 hv0
    omega
  have hwd := mul_bound (x := len2 (W3 u.v v)) (K := len2 (W3 u.v v)) (by omega) hd
  generalize len2 (W3 u.v v) = W at *
  generalize W * (len2 u.v + u.s * u.s - O2) = D at *
  generalize len2 v = V at *
  generalize len2 t = R at *
  simp only [O2] at *
  have up : R ≤ V + 360 * (p + 1) + 48 * q := by omega
  have dn : V ≤ R + 360 * (p + 1) + 48 * q + 192 := by omega
  have e1 : (p + 1) * (p + 1) = p * p + 2 * p + 1 := by grind
  have e2 : (q + 1) * (q + 1) = q * q + 2 * q + 1 := by grind
  rw [e1] at hp2
  rw [e2] at hq2
  constructor
  · rcases Int.lt_or_le (p - q) 1025 with h | h
    · omega
    · exfalso
      have h1 : p * (q + 1025) ≤ p * p := Int.mul_le_mul_of_nonneg_left (by omega) p0
      have h2 : (q + 1025) * q ≤ p * q := Int.mul_le_mul_of_nonneg_right (by omega) q0
      have h3 : p * (q + 1025) = p * q + 1025 * p := by grind
      have h4 : (q + 1025) * q = q * q + 1025 * q := by grind
      omega
  · rcases Int.lt_or_le (q - p) 1025 with h | h
    · omega
    · exfalso
      have h1 : q * (p + 1025) ≤ q * q := Int.mul_le_mul_of_nonneg_left (by omega) q0
      have h2 : (p + 1025) * p ≤ q * p := Int.mul_le_mul_of_nonneg_right (by omega) p0
      have h3 : q * (p + 1025) = q * p + 1025 * q := by grind
      have h4 : (p + 1025) * p = p * p + 1025 * p := by grind
      omega
end Go.Ab
/- Two turns one behind the other, and their product: the laws. -/
namespace Go.Ab
open Go Go.Proofs
/-- A turn by what is 2^80 long. -/
def G3 (a : V3) (s : Int) (v : V3) : V3 :=
  ⟨O2 * O2 * v.x - 2 * (s * (W3 a v).x) + 2 * (W3 a (W3 a v)).x, O2 * O2 * v.y - 2 * (s * (W3 a v).y) + 2 * (W3 a (W3 a v)).y, O2 * O2 * v.z - 2 * (s * (W3 a v).z) + 2 * (W3 a (W3 a v)).z⟩
/-- The product, exact. -/
def mV (a b : V3) (s t : Int) : V3 := ⟨t * a.x + s * b.x + (W3 b a).x, t * a.y + s * b.y + (W3 b a).y, t * a.z + s * b.z + (W3 b a).z⟩
def mS (a b : V3) (s t : Int) : Int := s * t - (a.x * b.x + a.y * b.y + a.z * b.z)
theorem m_len (a b : V3) (s t : Int) : len2 (mV a b s t) + mS a b s t * mS a b s t = (len2 a + s * s) * (len2 b + t * t) := by
  simp only [W3, mV, mS, len2]
  grind
def add3 (a b : V3) : V3 := ⟨a.x + b.x, a.y + b.y, a.z + b.z⟩
def one3 (a : V3) : V3 := ⟨1099511627776 * a.x, 1099511627776 * a.y, 1099511627776 * a.z⟩
theorem after_x (a b v : V3) (s t : Int) : (T3 a s (T3 b t v)).x - (G3 (mV a b s t) (mS a b s t) v).x = (O2 - (len2 a + s * s)) * ((T3 b t v).x - O2 * v.x) + (O2 - (len2 b + t * t)) * ((T3 a s v).x - O2 * v.x) := by
  simp only [T3, G3, W3, mV, mS, O2, len2]
  grind
theorem G3_one_x (m v : V3) (s : Int) : O2 * (T3 m s v).x = (G3 (one3 m) (1099511627776 * s) v).x := by
  simp only [T3, G3, W3, O2, one3]
  grind
theorem G3_diff_x (M e v : V3) (S f : Int) : (G3 (add3 M e) (S + f) v).x - (G3 M S v).x = -(2 * (S * (W3 e v).x)) - 2 * (f * (W3 (add3 M e) v).x) + 2 * (W3 M (W3 e v)).x + 2 * (W3 e (W3 (add3 M e) v)).x := by
  simp only [G3, W3, add3, O2]
  grind
theorem after_y (a b v : V3) (s t : Int) : (T3 a s (T3 b t v)).y - (G3 (mV a b s t) (mS a b s t) v).y = (O2 - (len2 a + s * s)) * ((T3 b t v).y - O2 * v.y) + (O2 - (len2 b + t * t)) * ((T3 a s v).y - O2 * v.y) := by
  simp only [T3, G3, W3, mV, mS, O2, len2]
  grind
theorem G3_one_y (m v : V3) (s : Int) : O2 * (T3 m s v).y = (G3 (one3 m) (1099511627776 * s) v).y := by
  simp only [T3, G3, W3, O2, one3]
  grind
theorem G3_diff_y (M e v : V3) (S f : Int) : (G3 (add3 M e) (S + f) v).y - (G3 M S v).y = -(2 * (S * (W3 e v).y)) - 2 * (f * (W3 (add3 M e) v).y) + 2 * (W3 M (W3 e v)).y + 2 * (W3 e (W3 (add3 M e) v)).y := by
  simp only [G3, W3, add3, O2]
  grind
theorem after_z (a b v : V3) (s t : Int) : (T3 a s (T3 b t v)).z - (G3 (mV a b s t) (mS a b s t) v).z = (O2 - (len2 a + s * s)) * ((T3 b t v).z - O2 * v.z) + (O2 - (len2 b + t * t)) * ((T3 a s v).z - O2 * v.z) := by
  simp only [T3, G3, W3, mV, mS, O2, len2]
  grind
theorem G3_one_z (m v : V3) (s : Int) : O2 * (T3 m s v).z = (G3 (one3 m) (1099511627776 * s) v).z := by
  simp only [T3, G3, W3, O2, one3]
  grind
theorem G3_diff_z (M e v : V3) (S f : Int) : (G3 (add3 M e) (S + f) v).z - (G3 M S v).z = -(2 * (S * (W3 e v).z)) - 2 * (f * (W3 (add3 M e) v).z) + 2 * (W3 M (W3 e v)).z + 2 * (W3 e (W3 (add3 M e) v)).z := by
  simp only [G3, W3, add3, O2]
  grind

/-- A product is off by little. -/
structure Prod3 (a b : V4) (m : V4) : Prop where
  v : Up 2199023255552 ⟨1099511627776 * m.v.x - (mV a.v b.v a.s b.s).x, 1099511627776 * m.v.y - (mV a.v b.v a.s b.s).y, 1099511627776 * m.v.z - (mV a.v b.v a.s b.s).z⟩
  s : -2199023255552 ≤ 1099511627776 * m.s - mS a.v b.v a.s b.s ∧ 1099511627776 * m.s - mS a.v b.v a.s b.s ≤ 2199023255552
theorem Up.small3 {u : V3} (h : Up 1099511627776 u) : Small3 u := ⟨h.x, h.y, h.z⟩
theorem qmul_ok {a b : V4} (ha : QU a) (hb : QU b) : ∃ m, qmul false (a, b, ()) = (m, false) ∧ Prod3 a b m := by
  have sa := ha.s
  have sb := hb.s
  obtain ⟨x, ex, x1, x2, x3⟩ := vscale_gen (k := b.s) (by omega) ha.v (by omega)
  obtain ⟨y, ey, y1, y2, y3⟩ := vscale_gen (k := a.s) (by omega) hb.v (by omega)
  obtain ⟨z, ez, z1, z2, z3, hz⟩ := vcross_gen (K := 1099511627776) (by omega) (hb.v.mono (by omega)) ha.v
  have m1 := mul_bound ha.v.x sb
  have m2 := mul_bound ha.v.y sb
  have m3 := mul_bound ha.v.z sb
  have m4 := mul_bound hb.v.x sa
  have m5 := mul_bound hb.v.y sa
  have m6 := mul_bound hb.v.z sa
  have hx : Up 1099511627777 x := ⟨by omega, by omega, by omega⟩
  have hy : Up 1099511627777 y := ⟨by omega, by omega, by omega⟩
  have es := vadd_gen (hx.mono (by omega)) (hy.mono (by omega))
  have hx1 := hx.x
  have hx2 := hx.y
  have hx3 := hx.z
  have hy1 := hy.x
  have hy2 := hy.y
  have hy3 := hy.z
  have er := vadd_gen (u := ⟨x.x + y.x, x.y + y.y, x.z + y.z⟩) (v := z) ⟨by show _ ≤ x.x + y.x ∧ x.x + y.x ≤ _; omega, by show _ ≤ x.y + y.y ∧ x.y + y.y ≤ _; omega, by show _ ≤ x.z + y.z ∧ x.z + y.z ≤ _; omega⟩ (hz.mono (by omega))
  obtain ⟨c, ec, c1, c2⟩ := mul_small (a := a.s) (b := b.s) (by omega) (by omega)
  have hbx := hb.v.x
  have hby := hb.v.y
  have hbz := hb.v.z
  obtain ⟨d, ed, d1, d2⟩ := dot_ok (u := a.v) (w := b.v) ha.v.small3 (by omega) (by omega) (by omega)
  have n1 := mul_bound sa sb
  have n2 := mul_bound ha.v.x hb.v.x
  have n3 := mul_bound ha.v.y hb.v.y
  have n4 := mul_bound ha.v.z hb.v.z
  have ew : fsub false c d = (c - d, false) := fsub_fine (num_small (by omega) (by omega)) (num_small (by omega) (by omega)) (num_small (by omega) (by omega))
  refine ⟨⟨x.x + y.x + z.x, x.y + y.y + z.y, x.z + y.z + z.z, c - d⟩, ?_, ⟨⟨?_, ?_, ?_⟩, ?_⟩⟩
  · unfold qmul qmulP qmulW
    simp only [vopsF, opsF]
    rw [ex]
    dsimp only
    rw [ey]
    dsimp only
    rw [es]
    dsimp only
    rw [ez]
    dsimp only
    rw [er]
    dsimp only
    rw [ec]
    dsimp only
    rw [ed]
    dsimp only
    rw [ew]
    rfl
  · show _ ≤ 1099511627776 * (x.x + y.x + z.x) - (b.s * a.v.x + a.s * b.v.x + (W3 b.v a.v).x) ∧ 1099511627776 * (x.x + y.x + z.x) - (b.s * a.v.x + a.s * b.v.x + (W3 b.v a.v).x) ≤ _
    rw [Int.mul_comm b.s, Int.mul_comm a.s]
    omega
  · show _ ≤ 1099511627776 * (x.y + y.y + z.y) - (b.s * a.v.y + a.s * b.v.y + (W3 b.v a.v).y) ∧ 1099511627776 * (x.y + y.y + z.y) - (b.s * a.v.y + a.s * b.v.y + (W3 b.v a.v).y) ≤ _
    rw [Int.mul_comm b.s, Int.mul_comm a.s]
    omega
  · show _ ≤ 1099511627776 * (x.z + y.z + z.z) - (b.s * a.v.z + a.s * b.v.z + (W3 b.v a.v).z) ∧ 1099511627776 * (x.z + y.z + z.z) - (b.s * a.v.z + a.s * b.v.z + (W3 b.v a.v).z) ≤ _
    rw [Int.mul_comm b.s, Int.mul_comm a.s]
    omega
  · show _ ≤ 1099511627776 * (c - d) - (a.s * b.s - (a.v.x * b.v.x + a.v.y * b.v.y + a.v.z * b.v.z)) ∧ 1099511627776 * (c - d) - (a.s * b.s - (a.v.x * b.v.x + a.v.y * b.v.y + a.v.z * b.v.z)) ≤ _
    omega
/-- A product's parts. -/
theorem m_up {a b : V4} (ha : QU a) (hb : QU b) : Up 1208925819631121849122816 (mV a.v b.v a.s b.s) ∧ (-1208925819631121849122816 ≤ mS a.v b.v a.s b.s ∧ mS a.v b.v a.s b.s ≤ 1208925819631121849122816) := by
  have h := m_len a.v b.v a.s b.s
  have a1 := ha.hi
  have b1 := hb.hi
  have a0 : 0 ≤ len2 a.v + a.s * a.s := by
    have s1 := sq_nonneg a.v.x
    have s2 := sq_nonneg a.v.y
    have s3 := sq_nonneg a.v.z
    have s4 := sq_nonneg a.s
    unfold len2; omega
  have b0 : 0 ≤ len2 b.v + b.s * b.s := by
    have s1 := sq_nonneg b.v.x
    have s2 := sq_nonneg b.v.y
    have s3 := sq_nonneg b.v.z
    have s4 := sq_nonneg b.s
    unfold len2; omega
  have hle : (len2 a.v + a.s * a.s) * (len2 b.v + b.s * b.s) ≤ 1208925819631121849122816 * 1208925819631121849122816 := by
    refine Int.le_trans (Int.mul_le_mul_of_nonneg_right (c := len2 b.v + b.s * b.s) (b := 1208925819631121849122816) (by unfold len2; omega) b0) ?_
    refine Int.mul_le_mul_of_nonneg_left ?_ (by omega)
    unfold len2; omega
  rw [← h] at hle
  have s1 := sq_nonneg (mV a.v b.v a.s b.s).x
  have s2 := sq_nonneg (mV a.v b.v a.s b.s).y
  have s3 := sq_nonneg (mV a.v b.v a.s b.s).z
  have s4 := sq_nonneg (mS a.v b.v a.s b.s)
  unfold len2 at hle
  exact ⟨⟨le_of_sq_lt (by omega) (by omega), le_of_sq_lt (by omega) (by omega), le_of_sq_lt (by omega) (by omega)⟩, le_of_sq_lt (by omega) (by omega)⟩
theorem W3_bound2 {a v : V3} {K L : Int} (ha : Up K a) (hv : Up L v) : Up (2 * (K * L)) (W3 a v) := W3_bound ha hv
/-- Both ways are near. -/
theorem after_ok {a b m : V4} {v t x y : V3} (ha : QU a) (hb : QU b) (hm : Prod3 a b m) (hv : Up 1099511627776 v) (ht : Off3 t (T3 b.v b.s v) 9671406556917033397649408) (hx : Off3 x (T3 a.v a.s t) 9671406556917033397649408) (hy : Off3 y (T3 m.v m.s v) 9671406556917033397649408) :
    (-1000 ≤ x.x - y.x ∧ x.x - y.x ≤ 1000) ∧ (-1000 ≤ x.y - y.y ∧ x.y - y.y ≤ 1000) ∧ (-1000 ≤ x.z - y.z ∧ x.z - y.z ≤ 1000) := by
  have he : Up 9671406556917033397649408 ⟨O2 * t.x - (T3 b.v b.s v).x, O2 * t.y - (T3 b.v b.s v).y, O2 * t.z - (T3 b.v b.s v).z⟩ := ⟨ht.x, ht.y, ht.z⟩
  have hE := T3_bound ha.v ha.s he
  have hTb := T3_bound hb.v hb.s hv
  have hTa := T3_bound ha.v ha.s hv
  have da : -16492674416640 ≤ O2 - (len2 a.v + a.s * a.s) ∧ O2 - (len2 a.v + a.s * a.s) ≤ 16492674416640 := by
    have h1 := ha.lo
    have h2 := ha.hi
    simp only [len2, O2]
    omega
  have db : -16492674416640 ≤ O2 - (len2 b.v + b.s * b.s) ∧ O2 - (len2 b.v + b.s * b.s) ≤ 16492674416640 := by
    have h1 := hb.lo
    have h2 := hb.hi
    simp only [len2, O2]
    omega
  obtain ⟨hM, hS⟩ := m_up ha hb
  obtain ⟨M, hMd⟩ : ∃ M, M = mV a.v b.v a.s b.s := ⟨_, rfl⟩
  obtain ⟨S, hSd⟩ : ∃ S, S = mS a.v b.v a.s b.s := ⟨_, rfl⟩
  obtain ⟨e, hed⟩ : ∃ e : V3, e = ⟨1099511627776 * m.v.x - M.x, 1099511627776 * m.v.y - M.y, 1099511627776 * m.v.z - M.z⟩ := ⟨_, rfl⟩
  obtain ⟨f, hfd⟩ : ∃ f, f = 1099511627776 * m.s - S := ⟨_, rfl⟩
  rw [← hMd] at hM
  rw [← hSd] at hS
  have heU : Up 2199023255552 e := by rw [hed, hMd]; exact hm.v
  have hfU : -2199023255552 ≤ f ∧ f ≤ 2199023255552 := by rw [hfd, hSd]; exact hm.s
  have hP : one3 m.v = add3 M e := by rw [hed]; simp only [one3, add3, V3.mk.injEq]; omega
  have hPs : 1099511627776 * m.s = S + f := by omega
  have hPU : Up 1208925819633320872378368 (add3 M e) := by
    have q1 := hM.x
    have q2 := hM.y
    have q3 := hM.z
    have r1 := heU.x
    have r2 := heU.y
    have r3 := heU.z
    exact ⟨by show _ ≤ M.x + e.x ∧ M.x + e.x ≤ _; omega, by show _ ≤ M.y + e.y ∧ M.y + e.y ≤ _; omega, by show _ ≤ M.z + e.z ∧ M.z + e.z ≤ _; omega⟩
  have w1 := W3_bound heU hv
  have w2 := W3_bound hPU hv
  have w3 := W3_bound hM w1
  have w4 := W3_bound heU w2
  have pxc1 := mul_bound hS w1.x
  have pxc2 := mul_bound hfU w2.x
  have pxc3 := w3.x
  have pxc4 := w4.x
  have gxc := G3_diff_x M e v S f
  have oxc := G3_one_x m.v v m.s
  rw [hP, hPs] at oxc
  have axc := after_x a.v b.v v a.s b.s
  rw [← hMd, ← hSd] at axc
  have kxc := T3_off_x a.v t (T3 b.v b.s v) a.s
  have tbxc : -(14 * (1208925819614629174706176 * 1099511627776)) ≤ (T3 b.v b.s v).x - O2 * v.x ∧ (T3 b.v b.s v).x - O2 * v.x ≤ 14 * (1208925819614629174706176 * 1099511627776) := by
    have h1 := hTb.x
    have h2 := hv.x
    simp only [O2] at *
    omega
  have taxc : -(14 * (1208925819614629174706176 * 1099511627776)) ≤ (T3 a.v a.s v).x - O2 * v.x ∧ (T3 a.v a.s v).x - O2 * v.x ≤ 14 * (1208925819614629174706176 * 1099511627776) := by
    have h1 := hTa.x
    have h2 := hv.x
    simp only [O2] at *
    omega
  have mxc1 := mul_bound da tbxc
  have mxc2 := mul_bound db taxc
  have exc := hE.x
  have xxc := hx.x
  have yxc := hy.x
  unfold Off at xxc yxc
  have pyc1 := mul_bound hS w1.y
  have pyc2 := mul_bound hfU w2.y
  have pyc3 := w3.y
  have pyc4 := w4.y
  have gyc := G3_diff_y M e v S f
  have oyc := G3_one_y m.v v m.s
  rw [hP, hPs] at oyc
  have ayc := after_y a.v b.v v a.s b.s
  rw [← hMd, ← hSd] at ayc
  have kyc := T3_off_y a.v t (T3 b.v b.s v) a.s
  have tbyc : -(14 * (1208925819614629174706176 * 1099511627776)) ≤ (T3 b.v b.s v).y - O2 * v.y ∧ (T3 b.v b.s v).y - O2 * v.y ≤ 14 * (1208925819614629174706176 * 1099511627776) := by
    have h1 := hTb.y
    have h2 := hv.y
    simp only [O2] at *
    omega
  have tayc : -(14 * (1208925819614629174706176 * 1099511627776)) ≤ (T3 a.v a.s v).y - O2 * v.y ∧ (T3 a.v a.s v).y - O2 * v.y ≤ 14 * (1208925819614629174706176 * 1099511627776) := by
    have h1 := hTa.y
    have h2 := hv.y
    simp only [O2] at *
    omega
  have myc1 := mul_bound da tbyc
  have myc2 := mul_bound db tayc
  have eyc := hE.y
  have xyc := hx.y
  have yyc := hy.y
  unfold Off at xyc yyc
  have pzc1 := mul_bound hS w1.z
  have pzc2 := mul_bound hfU w2.z
  have pzc3 := w3.z
  have pzc4 := w4.z
  have gzc := G3_diff_z M e v S f
  have ozc := G3_one_z m.v v m.s
  rw [hP, hPs] at ozc
  have azc := after_z a.v b.v v a.s b.s
  rw [← hMd, ← hSd] at azc
  have kzc := T3_off_z a.v t (T3 b.v b.s v) a.s
  have tbzc : -(14 * (1208925819614629174706176 * 1099511627776)) ≤ (T3 b.v b.s v).z - O2 * v.z ∧ (T3 b.v b.s v).z - O2 * v.z ≤ 14 * (1208925819614629174706176 * 1099511627776) := by
    have h1 := hTb.z
    have h2 := hv.z
    simp only [O2] at *
    omega
  have tazc : -(14 * (1208925819614629174706176 * 1099511627776)) ≤ (T3 a.v a.s v).z - O2 * v.z ∧ (T3 a.v a.s v).z - O2 * v.z ≤ 14 * (1208925819614629174706176 * 1099511627776) := by
    have h1 := hTa.z
    have h2 := hv.z
    simp only [O2] at *
    omega
  have mzc1 := mul_bound da tbzc
  have mzc2 := mul_bound db tazc
  have ezc := hE.z
  have xzc := hx.z
  have yzc := hy.z
  unfold Off at xzc yzc
  simp only [O2] at *
  omega
end Go.Ab
