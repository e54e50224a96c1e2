/- A part of the proofs: lemmas, no statement of their own; no condition. -/
import Derived.Test.YtgccejhdohpojaaNvAll
import Derived.Test.YtgccejhdohpojaaTrD
/- Three directions of two, and the matrix of two such: the laws. -/
namespace Go.Ab
open Go Go.Proofs
def dot3 (a b : V3) : Int := a.x * b.x + a.y * b.y + a.z * b.z
/-- Three directions. -/
structure Fr (s0 s1 s2 : V3) : Prop where
  u0 : Up 1099511627776 s0
  u1 : Up 1099511627776 s1
  u2 : Up 2199023255556 s2
  a : -7696581394432 ≤ dot3 s0 s0 - O2 ∧ dot3 s0 s0 - O2 ≤ 7696581394432
  al : -20890720927744 ≤ dot3 s0 s1 ∧ dot3 s0 s1 ≤ 20890720927744
  z : Up 1099511627776 ⟨1099511627776 * s2.x - (W3 s0 s1).x, 1099511627776 * s2.y - (W3 s0 s1).y, 1099511627776 * s2.z - (W3 s0 s1).z⟩
theorem Fr.ga {s0 s1 s2 : V3} (h : Fr s0 s1 s2) : -3298534883328 ≤ dot3 s2 s0 ∧ dot3 s2 s0 ≤ 3298534883328 := by
  have m1 := mul_bound h.z.x h.u0.x
  have m2 := mul_bound h.z.y h.u0.y
  have m3 := mul_bound h.z.z h.u0.z
  have key : 1099511627776 * dot3 s2 s0 = (1099511627776 * s2.x - (W3 s0 s1).x) * s0.x + (1099511627776 * s2.y - (W3 s0 s1).y) * s0.y + (1099511627776 * s2.z - (W3 s0 s1).z) * s0.z := by
    simp only [dot3, W3]; grind
  dsimp only at m1 m2 m3
  omega
/-- An entry of the matrix of two frames is off by little. -/
def Ent (m x0 y0 x1 y1 x2 y2 : Int) : Prop := -1649267441664 ≤ 1099511627776 * m - (x0 * y0 + x1 * y1 + x2 * y2) ∧ 1099511627776 * m - (x0 * y0 + x1 * y1 + x2 * y2) ≤ 1649267441664
/-- A row of the matrix, and the first direction. -/
theorem row_first {t0 t1 t2 mx my mz : Int} {s0 s1 s2 : V3} (h : Fr s0 s1 s2) (ht0 : -1099511627776 ≤ t0 ∧ t0 ≤ 1099511627776) (ht1 : -1099511627776 ≤ t1 ∧ t1 ≤ 1099511627776) (ht2 : -2199023255556 ≤ t2 ∧ t2 ≤ 2199023255556)
    (ex : Ent mx t0 s0.x t1 s1.x t2 s2.x) (ey : Ent my t0 s0.y t1 s1.y t2 s2.y) (ez : Ent mz t0 s0.z t1 s1.z t2 s2.z) :
    -43980465111040 ≤ mx * s0.x + my * s0.y + mz * s0.z - 1099511627776 * t0 ∧ mx * s0.x + my * s0.y + mz * s0.z - 1099511627776 * t0 ≤ 43980465111040 := by
  have m1 := mul_bound ht0 h.a
  have m2 := mul_bound ht1 h.al
  have m3 := mul_bound ht2 h.ga
  have e1 := mul_bound ex h.u0.x
  have e2 := mul_bound ey h.u0.y
  have e3 := mul_bound ez h.u0.z
  have key : 1099511627776 * (mx * s0.x + my * s0.y + mz * s0.z - 1099511627776 * t0) = t0 * (dot3 s0 s0 - O2) + t1 * dot3 s0 s1 + t2 * dot3 s2 s0 +
      (1099511627776 * mx - (t0 * s0.x + t1 * s1.x + t2 * s2.x)) * s0.x + (1099511627776 * my - (t0 * s0.y + t1 * s1.y + t2 * s2.y)) * s0.y + (1099511627776 * mz - (t0 * s0.z + t1 * s1.z + t2 * s2.z)) * s0.z := by
    simp only [dot3, O2]; grind
  generalize mx * s0.x + my * s0.y + mz * s0.z - 1099511627776 * t0 = X at *
  omega
def cyc (v : V3) : V3 := ⟨v.y, v.z, v.x⟩
theorem Fr.cyc {s0 s1 s2 : V3} (h : Fr s0 s1 s2) : Fr (cyc s0) (cyc s1) (cyc s2) := by
  refine ⟨⟨h.u0.y, h.u0.z, h.u0.x⟩, ⟨h.u1.y, h.u1.z, h.u1.x⟩, ⟨h.u2.y, h.u2.z, h.u2.x⟩, ?_, ?_, ⟨h.z.y, h.z.z, h.z.x⟩⟩
  · have := h.a
    have e : dot3 (Ab.cyc s0) (Ab.cyc s0) = dot3 s0 s0 := by simp only [dot3, Ab.cyc]; grind
    rw [e]; exact this
  · have := h.al
    have e : dot3 (Ab.cyc s0) (Ab.cyc s1) = dot3 s0 s1 := by simp only [dot3, Ab.cyc]; grind
    rw [e]; exact this
/-- The matrix goes with the cross products by the first directions: its first place. -/
theorem cross_first {t0 t1 t2 s0 s1 s2 : V3} (ht : Fr t0 t1 t2) (hs : Fr s0 s1 s2) {mxy mxz myx mzx : Int}
    (exy : Ent mxy t0.x s0.y t1.x s1.y t2.x s2.y) (exz : Ent mxz t0.x s0.z t1.x s1.z t2.x s2.z) (eyx : Ent myx t0.y s0.x t1.y s1.x t2.y s2.x) (ezx : Ent mzx t0.z s0.x t1.z s1.x t2.z s2.x) :
    -140737488355328 ≤ (mxy * s0.z - mxz * s0.y) - (t0.y * mzx - t0.z * myx) ∧ (mxy * s0.z - mxz * s0.y) - (t0.y * mzx - t0.z * myx) ≤ 140737488355328 := by
  obtain ⟨Z, hZ⟩ : ∃ Z : V3, Z = ⟨1099511627776 * s2.x - (W3 s0 s1).x, 1099511627776 * s2.y - (W3 s0 s1).y, 1099511627776 * s2.z - (W3 s0 s1).z⟩ := ⟨_, rfl⟩
  obtain ⟨Y, hY⟩ : ∃ Y : V3, Y = ⟨1099511627776 * t2.x - (W3 t0 t1).x, 1099511627776 * t2.y - (W3 t0 t1).y, 1099511627776 * t2.z - (W3 t0 t1).z⟩ := ⟨_, rfl⟩
  have bZ : Up 1099511627776 Z := by rw [hZ]; exact hs.z
  have bY : Up 1099511627776 Y := by rw [hY]; exact ht.z
  have k1 := mul_bound ht.u1.x bZ.x
  have k2 := mul_bound hs.u1.x bY.x
  have k3 := mul_bound hs.a hs.u1.x
  have k4 := mul_bound hs.al hs.u0.x
  have k5 := (W3_bound bZ hs.u0).x
  have k6 := mul_bound ht.al ht.u0.x
  have k7 := mul_bound ht.a ht.u1.x
  have k8 := (W3_bound ht.u0 bY).x
  have p1 := mul_bound (K := 2199023255556) (L := 33850766119600984145297408) (x := t2.x) (y := (dot3 s0 s0 - O2) * s1.x - dot3 s0 s1 * s0.x + (W3 Z s0).x) ht.u2.x (by omega)
  have p2 := mul_bound (K := 2199023255556) (L := 33850766119600984145297408) (x := s2.x) (y := dot3 t0 t1 * t0.x - (dot3 t0 t0 - O2) * t1.x + (W3 t0 Y).x) hs.u2.x (by omega)
  have q1 := mul_bound exy hs.u0.z
  have q2 := mul_bound exz hs.u0.y
  have q3 := mul_bound ht.u0.y ezx
  have q4 := mul_bound ht.u0.z eyx
  have key : O2 * ((mxy * s0.z - mxz * s0.y) - (t0.y * mzx - t0.z * myx)) = 1099511627776 * (t1.x * Z.x) + 1099511627776 * (s1.x * Y.x) + t2.x * ((dot3 s0 s0 - O2) * s1.x - dot3 s0 s1 * s0.x + (W3 Z s0).x) - s2.x * (dot3 t0 t1 * t0.x - (dot3 t0 t0 - O2) * t1.x + (W3 t0 Y).x) +
      1099511627776 * ((1099511627776 * mxy - (t0.x * s0.y + t1.x * s1.y + t2.x * s2.y)) * s0.z - (1099511627776 * mxz - (t0.x * s0.z + t1.x * s1.z + t2.x * s2.z)) * s0.y - (t0.y * (1099511627776 * mzx - (t0.z * s0.x + t1.z * s1.x + t2.z * s2.x)) - t0.z * (1099511627776 * myx - (t0.y * s0.x + t1.y * s1.x + t2.y * s2.x)))) := by
    rw [hZ, hY]
    simp only [dot3, W3, O2]; grind
  generalize (mxy * s0.z - mxz * s0.y) - (t0.y * mzx - t0.z * myx) = X at *
  simp only [O2] at *
  omega
end Go.Ab
/- The attitude of two frames takes the one's first direction to the other's: the laws. -/
namespace Go.Ab
open Go Go.Proofs
/-- The matrix of two frames, but for little. -/
structure MFr (t0 t1 t2 s0 s1 s2 : V3) (m : M9) : Prop where
  ax : Ent m.a.x t0.x s0.x t1.x s1.x t2.x s2.x
  ay : Ent m.a.y t0.x s0.y t1.x s1.y t2.x s2.y
  az : Ent m.a.z t0.x s0.z t1.x s1.z t2.x s2.z
  bx : Ent m.b.x t0.y s0.x t1.y s1.x t2.y s2.x
  by' : Ent m.b.y t0.y s0.y t1.y s1.y t2.y s2.y
  bz : Ent m.b.z t0.y s0.z t1.y s1.z t2.y s2.z
  cx : Ent m.c.x t0.z s0.x t1.z s1.x t2.z s2.x
  cy : Ent m.c.y t0.z s0.y t1.z s1.y t2.z s2.y
  cz : Ent m.c.z t0.z s0.z t1.z s1.z t2.z s2.z
theorem Ent.comm {m a b c d e f : Int} (h : Ent m a b c d e f) : Ent m b a d c f e := by
  unfold Ent at *
  rw [Int.mul_comm b a, Int.mul_comm d c, Int.mul_comm f e]
  exact h
/-- What is left where the matrix should be a turn. -/
structure Res (t s : V3) (m : M9) : Prop where
  r1x : -43980465111040 ≤ m.a.x * s.x + m.a.y * s.y + m.a.z * s.z - 1099511627776 * t.x ∧ m.a.x * s.x + m.a.y * s.y + m.a.z * s.z - 1099511627776 * t.x ≤ 43980465111040
  r1y : -43980465111040 ≤ m.b.x * s.x + m.b.y * s.y + m.b.z * s.z - 1099511627776 * t.y ∧ m.b.x * s.x + m.b.y * s.y + m.b.z * s.z - 1099511627776 * t.y ≤ 43980465111040
  r1z : -43980465111040 ≤ m.c.x * s.x + m.c.y * s.y + m.c.z * s.z - 1099511627776 * t.z ∧ m.c.x * s.x + m.c.y * s.y + m.c.z * s.z - 1099511627776 * t.z ≤ 43980465111040
  r2x : -43980465111040 ≤ m.a.x * t.x + m.b.x * t.y + m.c.x * t.z - 1099511627776 * s.x ∧ m.a.x * t.x + m.b.x * t.y + m.c.x * t.z - 1099511627776 * s.x ≤ 43980465111040
  r2y : -43980465111040 ≤ m.a.y * t.x + m.b.y * t.y + m.c.y * t.z - 1099511627776 * s.y ∧ m.a.y * t.x + m.b.y * t.y + m.c.y * t.z - 1099511627776 * s.y ≤ 43980465111040
  r2z : -43980465111040 ≤ m.a.z * t.x + m.b.z * t.y + m.c.z * t.z - 1099511627776 * s.z ∧ m.a.z * t.x + m.b.z * t.y + m.c.z * t.z - 1099511627776 * s.z ≤ 43980465111040
  xx : -140737488355328 ≤ (m.a.y * s.z - m.a.z * s.y) - (t.y * m.c.x - t.z * m.b.x) ∧ (m.a.y * s.z - m.a.z * s.y) - (t.y * m.c.x - t.z * m.b.x) ≤ 140737488355328
  xy : -140737488355328 ≤ (m.a.z * s.x - m.a.x * s.z) - (t.y * m.c.y - t.z * m.b.y) ∧ (m.a.z * s.x - m.a.x * s.z) - (t.y * m.c.y - t.z * m.b.y) ≤ 140737488355328
  xz : -140737488355328 ≤ (m.a.x * s.y - m.a.y * s.x) - (t.y * m.c.z - t.z * m.b.z) ∧ (m.a.x * s.y - m.a.y * s.x) - (t.y * m.c.z - t.z * m.b.z) ≤ 140737488355328
  yx : -140737488355328 ≤ (m.b.y * s.z - m.b.z * s.y) - (t.z * m.a.x - t.x * m.c.x) ∧ (m.b.y * s.z - m.b.z * s.y) - (t.z * m.a.x - t.x * m.c.x) ≤ 140737488355328
  yy : -140737488355328 ≤ (m.b.z * s.x - m.b.x * s.z) - (t.z * m.a.y - t.x * m.c.y) ∧ (m.b.z * s.x - m.b.x * s.z) - (t.z * m.a.y - t.x * m.c.y) ≤ 140737488355328
  yz : -140737488355328 ≤ (m.b.x * s.y - m.b.y * s.x) - (t.z * m.a.z - t.x * m.c.z) ∧ (m.b.x * s.y - m.b.y * s.x) - (t.z * m.a.z - t.x * m.c.z) ≤ 140737488355328
  zx : -140737488355328 ≤ (m.c.y * s.z - m.c.z * s.y) - (t.x * m.b.x - t.y * m.a.x) ∧ (m.c.y * s.z - m.c.z * s.y) - (t.x * m.b.x - t.y * m.a.x) ≤ 140737488355328
  zy : -140737488355328 ≤ (m.c.z * s.x - m.c.x * s.z) - (t.x * m.b.y - t.y * m.a.y) ∧ (m.c.z * s.x - m.c.x * s.z) - (t.x * m.b.y - t.y * m.a.y) ≤ 140737488355328
  zz : -140737488355328 ≤ (m.c.x * s.y - m.c.y * s.x) - (t.x * m.b.z - t.y * m.a.z) ∧ (m.c.x * s.y - m.c.y * s.x) - (t.x * m.b.z - t.y * m.a.z) ≤ 140737488355328
theorem res_of {t0 t1 t2 s0 s1 s2 : V3} {m : M9} (ht : Fr t0 t1 t2) (hs : Fr s0 s1 s2) (h : MFr t0 t1 t2 s0 s1 s2 m) : Res t0 s0 m where
  r1x := row_first hs ht.u0.x ht.u1.x ht.u2.x h.ax h.ay h.az
  r1y := row_first hs ht.u0.y ht.u1.y ht.u2.y h.bx h.by' h.bz
  r1z := row_first hs ht.u0.z ht.u1.z ht.u2.z h.cx h.cy h.cz
  r2x := row_first ht hs.u0.x hs.u1.x hs.u2.x h.ax.comm h.bx.comm h.cx.comm
  r2y := row_first ht hs.u0.y hs.u1.y hs.u2.y h.ay.comm h.by'.comm h.cy.comm
  r2z := row_first ht hs.u0.z hs.u1.z hs.u2.z h.az.comm h.bz.comm h.cz.comm
  xx := cross_first ht hs h.ay h.az h.bx h.cx
  xy := cross_first ht hs.cyc h.az h.ax h.by' h.cy
  xz := cross_first ht hs.cyc.cyc h.ax h.ay h.bz h.cz
  yx := cross_first ht.cyc hs h.by' h.bz h.cx h.ax
  yy := cross_first ht.cyc hs.cyc h.bz h.bx h.cy h.ay
  yz := cross_first ht.cyc hs.cyc.cyc h.bx h.by' h.cz h.az
  zx := cross_first ht.cyc.cyc hs h.cy h.cz h.ax h.bx
  zy := cross_first ht.cyc.cyc hs.cyc h.cz h.cx h.ay h.by'
  zz := cross_first ht.cyc.cyc hs.cyc.cyc h.cx h.cy h.az h.bz
/-- What is left of s q = q t. -/
def Dv (q : V4) (s t : V3) : V3 := ⟨q.z * (s.x - t.x) + ((s.y + t.y) * q.y - (s.z + t.z) * q.x), q.z * (s.y - t.y) + ((s.z + t.z) * q.w - (s.x + t.x) * q.y), q.z * (s.z - t.z) + ((s.x + t.x) * q.x - (s.y + t.y) * q.w)⟩
def Ds (q : V4) (s t : V3) : Int := q.w * (t.x - s.x) + q.x * (t.y - s.y) + q.y * (t.z - s.z)
structure DOk (q : V4) (s t : V3) : Prop where
  v : Up 439804651110400 (Dv q s t)
  s : -439804651110400 ≤ Ds q s t ∧ Ds q s t ≤ 439804651110400
theorem dL {t s : V3} {m : M9} (h : Res t s m) : DOk (qL m) s t := by
  obtain ⟨r1x, r1y, r1z, r2x, r2y, r2z, xx, xy, xz, yx, yy, yz, zx, zy, zz⟩ := h
  refine ⟨⟨?_, ?_, ?_⟩, ?_⟩ <;> simp only [Dv, Ds, qL] <;> constructor <;> grind
theorem d0 {t s : V3} {m : M9} (h : Res t s m) : DOk (q0 m) s t := by
  obtain ⟨r1x, r1y, r1z, r2x, r2y, r2z, xx, xy, xz, yx, yy, yz, zx, zy, zz⟩ := h
  refine ⟨⟨?_, ?_, ?_⟩, ?_⟩ <;> simp only [Dv, Ds, q0] <;> constructor <;> grind
theorem d1 {t s : V3} {m : M9} (h : Res t s m) : DOk (q1 m) s t := by
  obtain ⟨r1x, r1y, r1z, r2x, r2y, r2z, xx, xy, xz, yx, yy, yz, zx, zy, zz⟩ := h
  refine ⟨⟨?_, ?_, ?_⟩, ?_⟩ <;> simp only [Dv, Ds, q1] <;> constructor <;> grind
theorem d2 {t s : V3} {m : M9} (h : Res t s m) : DOk (q2 m) s t := by
  obtain ⟨r1x, r1y, r1z, r2x, r2y, r2z, xx, xy, xz, yx, yy, yz, zx, zy, zz⟩ := h
  refine ⟨⟨?_, ?_, ?_⟩, ?_⟩ <;> simp only [Dv, Ds, q2] <;> constructor <;> grind
end Go.Ab
/- The attitude of two frames: what it makes of the first direction. -/
namespace Go.Ab
open Go Go.Proofs
theorem d_unit {n X Y : Int} (hn : 1099511627776 ≤ n) (hX : -439804651110400 ≤ X ∧ X ≤ 439804651110400) (hY : -(6 * (1099511627776 * n)) ≤ Y ∧ Y ≤ 6 * (1099511627776 * n)) (M : Int) (h : 2 * (n * M) = 2199023255552 * X + Y) : -443103185993728 ≤ M ∧ M ≤ 443103185993728 := by
  constructor
  · refine le_of_mul2 (n := n) (by omega) ?_
    have : n * -443103185993728 = -(443103185993728 * n) := by rw [Int.mul_neg, Int.mul_comm]
    omega
  · refine le_of_mul2 (n := n) (by omega) ?_
    have : n * 443103185993728 = 443103185993728 * n := Int.mul_comm _ _
    omega
/-- What is left, for the unit. -/
structure DUnit (w : V4) (s t : V3) : Prop where
  v : Up 443103185993728 (Dv w s t)
  s : -443103185993728 ≤ Ds w s t ∧ Ds w s t ≤ 443103185993728
theorem dunit_of {q r : V4} {s t : V3} {n : Int} (hq : DOk q s t) (hs : Up 1099511627776 s) (ht : Up 1099511627776 t) (hn : 1099511627776 ≤ n)
    (hr : (2199023255552 * q.w - n ≤ 2 * n * r.w ∧ 2 * n * r.w ≤ 2199023255552 * q.w + n) ∧ (2199023255552 * q.x - n ≤ 2 * n * r.x ∧ 2 * n * r.x ≤ 2199023255552 * q.x + n) ∧
       (2199023255552 * q.y - n ≤ 2 * n * r.y ∧ 2 * n * r.y ≤ 2199023255552 * q.y + n) ∧ (2199023255552 * q.z - n ≤ 2 * n * r.z ∧ 2 * n * r.z ≤ 2199023255552 * q.z + n)) : DUnit r s t := by
  obtain ⟨hx, hy, hz, hw⟩ := hr
  obtain ⟨a, ha⟩ : ∃ a, a = 2 * n * r.w - 2199023255552 * q.w := ⟨_, rfl⟩
  obtain ⟨b, hb⟩ : ∃ b, b = 2 * n * r.x - 2199023255552 * q.x := ⟨_, rfl⟩
  obtain ⟨e, he⟩ : ∃ e, e = 2 * n * r.y - 2199023255552 * q.y := ⟨_, rfl⟩
  obtain ⟨d, hd⟩ : ∃ d, d = 2 * n * r.z - 2199023255552 * q.z := ⟨_, rfl⟩
  have ba : -n ≤ a ∧ a ≤ n := by omega
  have bb : -n ≤ b ∧ b ≤ n := by omega
  have be : -n ≤ e ∧ e ≤ n := by omega
  have bd : -n ≤ d ∧ d ≤ n := by omega
  have sx := hs.x
  have sy := hs.y
  have sz := hs.z
  have tx := ht.x
  have ty := ht.y
  have tz := ht.z
  have dx : -2199023255552 ≤ s.x - t.x ∧ s.x - t.x ≤ 2199023255552 := by omega
  have dy : -2199023255552 ≤ s.y - t.y ∧ s.y - t.y ≤ 2199023255552 := by omega
  have dz : -2199023255552 ≤ s.z - t.z ∧ s.z - t.z ≤ 2199023255552 := by omega
  have px : -2199023255552 ≤ s.x + t.x ∧ s.x + t.x ≤ 2199023255552 := by omega
  have py : -2199023255552 ≤ s.y + t.y ∧ s.y + t.y ≤ 2199023255552 := by omega
  have pz : -2199023255552 ≤ s.z + t.z ∧ s.z + t.z ≤ 2199023255552 := by omega
  have c1 : n * 2199023255552 = 2 * (1099511627776 * n) := by omega
  have c2 : 2199023255552 * n = 2 * (1099511627776 * n) := by omega
  have m1 := mul_bound bd dx
  have m2 := mul_bound py be
  have m3 := mul_bound pz bb
  have m4 := mul_bound bd dy
  have m5 := mul_bound pz ba
  have m6 := mul_bound px be
  have m7 := mul_bound bd dz
  have m8 := mul_bound px bb
  have m9 := mul_bound py ba
  have n1 := mul_bound ba dx
  have n2 := mul_bound bb dy
  have n3 := mul_bound be dz
  rw [c1] at m1 m4 m7 n1 n2 n3
  rw [c2] at m2 m3 m5 m6 m8 m9
  have kx : 2 * (n * (Dv r s t).x) = 2199023255552 * (Dv q s t).x + (d * (s.x - t.x) + (s.y + t.y) * e - (s.z + t.z) * b) := by
    rw [hd, he, hb]; simp only [Dv]; grind
  have ky : 2 * (n * (Dv r s t).y) = 2199023255552 * (Dv q s t).y + (d * (s.y - t.y) + (s.z + t.z) * a - (s.x + t.x) * e) := by
    rw [hd, he, ha]; simp only [Dv]; grind
  have kz : 2 * (n * (Dv r s t).z) = 2199023255552 * (Dv q s t).z + (d * (s.z - t.z) + (s.x + t.x) * b - (s.y + t.y) * a) := by
    rw [hd, ha, hb]; simp only [Dv]; grind
  have ks : 2 * (n * Ds r s t) = 2199023255552 * Ds q s t + (-(a * (s.x - t.x)) - b * (s.y - t.y) - e * (s.z - t.z)) := by
    rw [ha, hb, he]; simp only [Ds]; grind
  exact ⟨⟨d_unit hn hq.v.x (by omega) _ kx, d_unit hn hq.v.y (by omega) _ ky, d_unit hn hq.v.z (by omega) _ kz⟩, d_unit hn hq.s (by omega) _ ks⟩
theorem dunit_plain {r : V4} {s t : V3} (h : DUnit r s t) (hb : (-1099511627776 ≤ r.w ∧ r.w ≤ 1099511627776) ∧ (-1099511627776 ≤ r.x ∧ r.x ≤ 1099511627776) ∧ (-1099511627776 ≤ r.y ∧ r.y ≤ 1099511627776) ∧ (-1099511627776 ≤ r.z ∧ r.z ≤ 1099511627776)) : DUnit (plain r) s t := by
  rcases plain_cases hb with e | e
  · rw [e]; exact h
  · rw [e]
    have hx := h.v.x
    have hy := h.v.y
    have hz := h.v.z
    have hs := h.s
    simp only [Dv, Ds] at hx hy hz hs
    refine ⟨⟨?_, ?_, ?_⟩, ?_⟩ <;> simp only [Dv, Ds] <;> constructor <;> grind
/-- A turn by it takes the one direction to the other. -/
theorem dunit_turn {w : V4} {s t r : V3} (hw : QU w) (hd : DUnit w s t) (hs : Up 1099511627776 s) (ht : Up 1099511627776 t) (hr : Off3 r (T3 w.v w.s s) 9671406556917033397649408) :
    (-1700 ≤ r.x - t.x ∧ r.x - t.x ≤ 1700) ∧ (-1700 ≤ r.y - t.y ∧ r.y - t.y ≤ 1700) ∧ (-1700 ≤ r.z - t.z ∧ r.z - t.z ≤ 1700) := by
  have sx := hs.x
  have sy := hs.y
  have sz := hs.z
  have tx := ht.x
  have ty := ht.y
  have tz := ht.z
  have lo := hw.lo
  have hi := hw.hi
  have hl : -16492674416640 ≤ len2 w.v + w.s * w.s - O2 ∧ len2 w.v + w.s * w.s - O2 ≤ 16492674416640 := by simp only [len2, O2]; omega
  have m1 := mul_bound (y := t.x - s.x) (L := 2199023255552) hl (by omega)
  have m2 := mul_bound (y := t.y - s.y) (L := 2199023255552) hl (by omega)
  have m3 := mul_bound (y := t.z - s.z) (L := 2199023255552) hl (by omega)
  have a1 := mul_bound hw.s hd.v.x
  have a2 := mul_bound hw.s hd.v.y
  have a3 := mul_bound hw.s hd.v.z
  have b1 := mul_bound hd.s hw.v.x
  have b2 := mul_bound hd.s hw.v.y
  have b3 := mul_bound hd.s hw.v.z
  have cc := W3_bound hw.v hd.v
  have c1 := cc.x
  have c2 := cc.y
  have c3 := cc.z
  have kx : (T3 w.v w.s s).x - O2 * t.x = (len2 w.v + w.s * w.s - O2) * (t.x - s.x) + w.s * (Dv w s t).x - Ds w s t * w.v.x - (W3 w.v (Dv w s t)).x := by
    simp only [T3, W3, Dv, Ds, len2, V4.v, V4.s, O2]; grind
  have ky : (T3 w.v w.s s).y - O2 * t.y = (len2 w.v + w.s * w.s - O2) * (t.y - s.y) + w.s * (Dv w s t).y - Ds w s t * w.v.y - (W3 w.v (Dv w s t)).y := by
    simp only [T3, W3, Dv, Ds, len2, V4.v, V4.s, O2]; grind
  have kz : (T3 w.v w.s s).z - O2 * t.z = (len2 w.v + w.s * w.s - O2) * (t.z - s.z) + w.s * (Dv w s t).z - Ds w s t * w.v.z - (W3 w.v (Dv w s t)).z := by
    simp only [T3, W3, Dv, Ds, len2, V4.v, V4.s, O2]; grind
  have rx := hr.x
  have ry := hr.y
  have rz := hr.z
  unfold Off at rx ry rz
  simp only [O2] at *
  omega
end Go.Ab
/- Frames and attitudes of two pairs: what is computed where all is well. -/
namespace Go.Ab
open Go Go.Proofs
/-- A frame, where its two directions are far enough apart. -/
structure FrOk (p : P2) (u w c : V3) (k : Int) : Prop where
  ha : vunit opsF false (p.a, ()) = (u, false)
  hb : vunit opsF false (p.b, ()) = (w, false)
  hc : vcross opsM false (u, w, ()) = (c, false)
  hk : vnorm opsF false (c, ()) = (k, false)
  su : Small3 u
  sq : -7696581394432 ≤ dot3 u u - O2 ∧ dot3 u u - O2 ≤ 7696581394432
  up : -3298534883328 ≤ dot3 u c ∧ dot3 u c ≤ 3298534883328
  k0 : 0 ≤ k
theorem unit_sq7 {a u : V3} {n : Int} (h : vnorm opsF false (a, ()) = (n, false)) (hn : 1099511627776 ≤ n) (hu : Unit3 a u n) : -7696581394432 ≤ dot3 u u - O2 ∧ dot3 u u - O2 ≤ 7696581394432 := by
  have h' : fnorm false a.x a.y a.z = (n, false) := h
  obtain ⟨k1, k2⟩ := unit_near h' hu (by omega) 3298534883328 (by
    have e : n * n * 3298534883328 = 1099511627776 * n * (3 * n) := by grind
    have e2 : 1208925819614629174706176 * (2 * n + 1) ≤ 1099511627776 * 1099511627776 * (3 * n) := by omega
    have e3 : 1099511627776 * 1099511627776 * (3 * n) ≤ 1099511627776 * n * (3 * n) := Int.mul_le_mul_of_nonneg_right (by omega) (by omega)
    omega)
  simp only [dot3, O2]
  omega
theorem frame_at {p : P2} {n m : Int} (hn : vnorm opsF false (p.a, ()) = (n, false)) (hn1 : 1099511627776 ≤ n) (hm : vnorm opsF false (p.b, ()) = (m, false)) (hm1 : 1099511627776 ≤ m) : ∃ u w c k, FrOk p u w c k ∧ ∃ dt, vdotP opsM false (u, w, ()) = (dt, false) := by
  obtain ⟨u, hu, hU⟩ := vunit_ok hn (by omega)
  obtain ⟨w, hw, hW⟩ := vunit_ok hm (by omega)
  obtain ⟨c, hc, sx, sy, sz, bx, by', bz⟩ := cross_ok hU.small hW.small
  obtain ⟨k, hk, k0, _, _, _⟩ := norm_up (t := c) (K := 2199023255556) (by omega) ⟨by omega, by omega, by omega⟩
  have wx := hW.small.x
  have wy := hW.small.y
  have wz := hW.small.z
  obtain ⟨dt, hdt, _⟩ := dot_ok (u := u) (w := w) hU.small (by omega) (by omega) (by omega)
  obtain ⟨d1, d2⟩ := upright hU.small sx sy sz u hU.small (by grind)
  exact ⟨u, w, c, k, ⟨hu, hw, hc, hk, hU.small, unit_sq7 hn hn1 hU, ⟨d1, d2⟩, k0⟩, dt, hdt⟩
theorem apart_at {p : P2} {u w c : V3} {k dt : Int} (h : FrOk p u w c k) (hd : vdotP opsM false (u, w, ()) = (dt, false)) : apart (vparts vopsF) false (p.a, p.b, ()) = (decide (k ≥ 190928190487), false) := by
  have e : vparts vopsF false (p.a, p.b, ()) = (⟨k, dt⟩, false) := by
    unfold vparts vparts0 vpartsAt
    simp only [vopsF]
    rw [h.ha]
    dsimp only
    rw [h.hb]
    dsimp only
    rw [h.hc]
    dsimp only
    rw [h.hk]
    dsimp only
    rw [hd]
    rfl
  unfold apart
  rw [e]
  rfl
theorem frame_ok {p : P2} {u w c : V3} {k : Int} (h : FrOk p u w c k) (hk : 190928190487 ≤ k) : ∃ v x, frame vopsF false (p, ()) = (⟨u, v, x⟩, false) ∧ Fr u v x := by
  obtain ⟨v, hv, hV⟩ := vunit_ok h.hk (by omega)
  obtain ⟨x, hx, sx, sy, sz, bx, by', bz⟩ := cross_ok h.su hV.small
  refine ⟨v, x, ?_, ⟨⟨h.su.x, h.su.y, h.su.z⟩, ⟨hV.bx, hV.by', hV.bz⟩, ⟨bx, by', bz⟩, h.sq, ?_, ⟨?_, ?_, ?_⟩⟩⟩
  · unfold frame
    simp only [vopsF]
    rw [h.ha]
    dsimp only
    rw [h.hb]
    dsimp only
    rw [h.hc]
    dsimp only
    rw [hv]
    dsimp only
    rw [hx]
  · obtain ⟨A, hA⟩ : ∃ A, A = 2 * k * v.x - 2199023255552 * c.x := ⟨_, rfl⟩
    obtain ⟨B, hB⟩ : ∃ B, B = 2 * k * v.y - 2199023255552 * c.y := ⟨_, rfl⟩
    obtain ⟨C, hC⟩ : ∃ C, C = 2 * k * v.z - 2199023255552 * c.z := ⟨_, rfl⟩
    have vx := hV.x
    have vy := hV.y
    have vz := hV.z
    have bA : -k ≤ A ∧ A ≤ k := by omega
    have bB : -k ≤ B ∧ B ≤ k := by omega
    have bC : -k ≤ C ∧ C ≤ k := by omega
    have m1 := mul_bound h.su.x bA
    have m2 := mul_bound h.su.y bB
    have m3 := mul_bound h.su.z bC
    have key : k * (2 * dot3 u v) = 2199023255552 * dot3 u c + (u.x * A + u.y * B + u.z * C) := by
      rw [hA, hB, hC]; simp only [dot3]; grind
    have hup := h.up
    constructor
    · have : k * (-41781441855488) ≤ k * (2 * dot3 u v) := by
        have : k * (-41781441855488) = -(41781441855488 * k) := by rw [Int.mul_neg, Int.mul_comm]
        omega
      have := le_of_mul2 (by omega) this
      omega
    · have : k * (2 * dot3 u v) ≤ k * 41781441855488 := by
        have : k * 41781441855488 = 41781441855488 * k := Int.mul_comm _ _
        omega
      have := le_of_mul2 (by omega) this
      omega
  · simp only [W3]; constructor <;> omega
  · simp only [W3]; constructor <;> omega
  · simp only [W3]; constructor <;> omega
theorem ent_ok {x y : V3} (hx : Up 2199023255556 x) (hy : Up 2199023255556 y) : ∃ m, entP opsF false x y = (m, false) ∧ Ent m x.x y.x x.y y.y x.z y.z ∧ -17592186044416 ≤ m ∧ m ≤ 17592186044416 := by
  have x1 := hx.x
  have x2 := hx.y
  have x3 := hx.z
  have y1 := hy.x
  have y2 := hy.y
  have y3 := hy.z
  obtain ⟨a, ea, a1, a2⟩ := mul_small (a := x.x) (b := y.x) (by omega) (by omega)
  obtain ⟨b, eb, b1, b2⟩ := mul_small (a := x.y) (b := y.y) (by omega) (by omega)
  obtain ⟨c, ec, c1, c2⟩ := mul_small (a := x.z) (b := y.z) (by omega) (by omega)
  have m1 := mul_bound x1 y1
  have m2 := mul_bound x2 y2
  have m3 := mul_bound x3 y3
  refine ⟨0 + a + b + c, ?_, ⟨by omega, by omega⟩, by omega, by omega⟩
  unfold entP
  simp only [opsF]
  rw [ea]
  dsimp only
  rw [add_ok (a := 0) (b := a) (by omega) (by omega)]
  dsimp only
  rw [eb]
  dsimp only
  rw [add_ok (a := 0 + a) (b := b) (by omega) (by omega)]
  dsimp only
  rw [ec]
  dsimp only
  exact add_ok (by omega) (by omega)
theorem Fr.cols {s0 s1 s2 : V3} (h : Fr s0 s1 s2) : Up 2199023255556 (M9.c0 ⟨s0, s1, s2⟩) ∧ Up 2199023255556 (M9.c1 ⟨s0, s1, s2⟩) ∧ Up 2199023255556 (M9.c2 ⟨s0, s1, s2⟩) := by
  have a := h.u0.mono (L := 2199023255556) (by omega)
  have b := h.u1.mono (L := 2199023255556) (by omega)
  have c := h.u2
  exact ⟨⟨a.x, b.x, c.x⟩, ⟨a.y, b.y, c.y⟩, ⟨a.z, b.z, c.z⟩⟩
theorem mat_ok {t0 t1 t2 s0 s1 s2 : V3} (ht : Fr t0 t1 t2) (hs : Fr s0 s1 s2) : ∃ m, matBy (entP opsF) ⟨t0, t1, t2⟩ ⟨s0, s1, s2⟩ false = (m, false) ∧ MFr t0 t1 t2 s0 s1 s2 m ∧ MUp m := by
  obtain ⟨t_0, t_1, t_2⟩ := ht.cols
  obtain ⟨s_0, s_1, s_2⟩ := hs.cols
  obtain ⟨a, ea, fa, ga⟩ := ent_ok t_0 s_0
  obtain ⟨b, eb, fb, gb⟩ := ent_ok t_0 s_1
  obtain ⟨c, ec, fc, gc⟩ := ent_ok t_0 s_2
  obtain ⟨d, ed, fd, gd⟩ := ent_ok t_1 s_0
  obtain ⟨e, ee, fe, ge⟩ := ent_ok t_1 s_1
  obtain ⟨f, ef, ff, gf⟩ := ent_ok t_1 s_2
  obtain ⟨g, eg, fg, gg⟩ := ent_ok t_2 s_0
  obtain ⟨h, eh, fh, gh⟩ := ent_ok t_2 s_1
  obtain ⟨i, ei, fi, gi⟩ := ent_ok t_2 s_2
  refine ⟨⟨⟨a, b, c⟩, ⟨d, e, f⟩, ⟨g, h, i⟩⟩, ?_, ⟨fa, fb, fc, fd, fe, ff, fg, fh, fi⟩, ⟨⟨ga, gb, gc⟩, ⟨gd, ge, gf⟩, ⟨gg, gh, gi⟩⟩⟩
  unfold matBy rowBy each3
  dsimp only
  rw [ea]
  dsimp only
  rw [eb]
  dsimp only
  rw [ec]
  dsimp only
  rw [ed]
  dsimp only
  rw [ee]
  dsimp only
  rw [ef]
  dsimp only
  rw [eg]
  dsimp only
  rw [eh]
  dsimp only
  rw [ei]
/-- The attitude of a matrix, whatever is told of its four numbers. -/
theorem from_gen {m : M9} (hup : MUp m) (T : V4 → Prop) (hL : T (qL m)) (h0 : T (q0 m)) (h1 : T (q1 m)) (h2 : T (q2 m)) :
    ∃ w n r q, fromMat opsF (qunit opsF) false (m, ()) = (w, false) ∧ T q ∧ w = plain r ∧ QU w ∧ 1099511627776 ≤ n ∧ ((2199023255552 * q.w - n ≤ 2 * n * r.w ∧ 2 * n * r.w ≤ 2199023255552 * q.w + n) ∧ (2199023255552 * q.x - n ≤ 2 * n * r.x ∧ 2 * n * r.x ≤ 2199023255552 * q.x + n) ∧
       (2199023255552 * q.y - n ≤ 2 * n * r.y ∧ 2 * n * r.y ≤ 2199023255552 * q.y + n) ∧ (2199023255552 * q.z - n ≤ 2 * n * r.z ∧ 2 * n * r.z ≤ 2199023255552 * q.z + n)) ∧
      ((-1099511627776 ≤ r.w ∧ r.w ≤ 1099511627776) ∧ (-1099511627776 ≤ r.x ∧ r.x ≤ 1099511627776) ∧ (-1099511627776 ≤ r.y ∧ r.y ≤ 1099511627776) ∧ (-1099511627776 ≤ r.z ∧ r.z ≤ 1099511627776)) := by
  obtain ⟨eL, e0, e1, e2⟩ := fm_vals hup (qunit opsF)
  have a1 := hup.a.x
  have a2 := hup.a.y
  have a3 := hup.a.z
  have b1 := hup.b.x
  have b2 := hup.b.y
  have b3 := hup.b.z
  have c1 := hup.c.x
  have c2 := hup.c.y
  have c3 := hup.c.z
  have any : ∀ q : V4, T q → (-1125899906842624 ≤ q.w ∧ q.w ≤ 1125899906842624) → (-1125899906842624 ≤ q.x ∧ q.x ≤ 1125899906842624) → (-1125899906842624 ≤ q.y ∧ q.y ≤ 1125899906842624) → (-1125899906842624 ≤ q.z ∧ q.z ≤ 1125899906842624) →
      (1099511627776 ≤ q.w ∨ 1099511627776 ≤ q.x ∨ 1099511627776 ≤ q.y ∨ 1099511627776 ≤ q.z) → ∃ w n r q', qunit opsF false (q, ()) = (w, false) ∧ T q' ∧ w = plain r ∧ QU w ∧ 1099511627776 ≤ n ∧ ((2199023255552 * q'.w - n ≤ 2 * n * r.w ∧ 2 * n * r.w ≤ 2199023255552 * q'.w + n) ∧ (2199023255552 * q'.x - n ≤ 2 * n * r.x ∧ 2 * n * r.x ≤ 2199023255552 * q'.x + n) ∧
       (2199023255552 * q'.y - n ≤ 2 * n * r.y ∧ 2 * n * r.y ≤ 2199023255552 * q'.y + n) ∧ (2199023255552 * q'.z - n ≤ 2 * n * r.z ∧ 2 * n * r.z ≤ 2199023255552 * q'.z + n)) ∧
      ((-1099511627776 ≤ r.w ∧ r.w ≤ 1099511627776) ∧ (-1099511627776 ≤ r.x ∧ r.x ≤ 1099511627776) ∧ (-1099511627776 ≤ r.y ∧ r.y ≤ 1099511627776) ∧ (-1099511627776 ≤ r.z ∧ r.z ≤ 1099511627776)) := by
    intro q hq hw hx hy hz big
    obtain ⟨n, r, h1, _, h3, _, h5, h6⟩ := unit_gen hw hx hy hz (by omega)
    exact ⟨plain r, n, r, q, h1, hq, rfl, qunit_ok h1, by omega, h5, h6⟩
  have fL := fun (hb : 0 ≤ m.a.x + m.b.y + m.c.z) => any (qL m) hL (by simp only [qL]; omega) (by simp only [qL]; omega) (by simp only [qL]; omega) (by simp only [qL]; omega) (by simp only [qL]; omega)
  have f0 := fun (hb : 0 ≤ m.a.x - m.b.y - m.c.z) => any (q0 m) h0 (by simp only [q0]; omega) (by simp only [q0]; omega) (by simp only [q0]; omega) (by simp only [q0]; omega) (by simp only [q0]; omega)
  have f1 := fun (hb : 0 ≤ m.b.y - m.c.z - m.a.x) => any (q1 m) h1 (by simp only [q1]; omega) (by simp only [q1]; omega) (by simp only [q1]; omega) (by simp only [q1]; omega) (by simp only [q1]; omega)
  have f2 := fun (hb : 0 ≤ m.c.z - m.a.x - m.b.y) => any (q2 m) h2 (by simp only [q2]; omega) (by simp only [q2]; omega) (by simp only [q2]; omega) (by simp only [q2]; omega) (by simp only [q2]; omega)
  unfold fromMat
  dsimp only
  rw [fmF_ok hup, fmT_ok hup]
  dsimp only
  rw [cond_false, eL, e0, e1, e2]
  unfold fmPick
  by_cases g1 : m.a.x > m.a.x + m.b.y + m.c.z
  · rw [decide_eq_true g1, cond_true]
    by_cases g2 : m.b.y > m.a.x
    · rw [decide_eq_true g2, cond_true]
      by_cases g3 : m.c.z > m.b.y
      · rw [decide_eq_true g3, cond_true]; exact f2 (by omega)
      · rw [decide_eq_false g3, cond_false]; exact f1 (by omega)
    · rw [decide_eq_false g2, cond_false]
      by_cases g3 : m.c.z > m.a.x
      · rw [decide_eq_true g3, cond_true]; exact f2 (by omega)
      · rw [decide_eq_false g3, cond_false]; exact f0 (by omega)
  · rw [decide_eq_false g1, cond_false]
    by_cases g2 : m.b.y > m.a.x + m.b.y + m.c.z
    · rw [decide_eq_true g2, cond_true]
      by_cases g3 : m.c.z > m.b.y
      · rw [decide_eq_true g3, cond_true]; exact f2 (by omega)
      · rw [decide_eq_false g3, cond_false]; exact f1 (by omega)
    · rw [decide_eq_false g2, cond_false]
      by_cases g3 : m.c.z > m.a.x + m.b.y + m.c.z
      · rw [decide_eq_true g3, cond_true]; exact f2 (by omega)
      · rw [decide_eq_false g3, cond_false]; exact fL (by omega)
/-- The attitude of two pairs, where all is well. -/
theorem att_ok {sky body : P2} {u w c : V3} {k dt : Int} {u' w' c' : V3} {k' dt' : Int} (hs : FrOk sky u w c k) (hd : vdotP opsM false (u, w, ()) = (dt, false)) (hb : FrOk body u' w' c' k') (hd' : vdotP opsM false (u', w', ()) = (dt', false)) :
    attitude false (sky, body, ()) = (V4.zero, true) ∨ ∃ q v x v' x', attitude false (sky, body, ()) = (q, false) ∧ 190928190487 ≤ k ∧ 190928190487 ≤ k' ∧ frame vopsF false (sky, ()) = (⟨u, v, x⟩, false) ∧ frame vopsF false (body, ()) = (⟨u', v', x'⟩, false) ∧ QU q ∧ DUnit q u u' := by
  unfold attitude
  dsimp only
  rw [apart_at hs hd]
  dsimp only
  rw [apart_at hb hd']
  dsimp only
  by_cases g1 : k ≥ 190928190487
  · rw [decide_eq_true g1]
    by_cases g2 : k' ≥ 190928190487
    · rw [decide_eq_true g2]
      refine .inr ?_
      obtain ⟨v, x, ef, hf⟩ := frame_ok hs g1
      obtain ⟨v', x', ef', hf'⟩ := frame_ok hb g2
      obtain ⟨m, em, hm, hup⟩ := mat_ok hf' hf
      have hres := res_of hf' hf hm
      obtain ⟨q, n, r, q', e1, hT, rfl, hq, hn, h5, h6⟩ := from_gen hup (fun q => DOk q u u') (dL hres) (d0 hres) (d1 hres) (d2 hres)
      have hD := dunit_plain (dunit_of hT hf.u0 hf'.u0 hn h5) h6
      refine ⟨plain r, v, x, v', x', ?_, g1, g2, ef, ef', hq, hD⟩
      unfold attRest
      dsimp only
      rw [ef]
      dsimp only
      rw [ef']
      dsimp only
      rw [em]
      dsimp only
      rw [e1]
      rfl
    · rw [decide_eq_false g2]
      exact .inl rfl
  · rw [decide_eq_false g1]
    exact .inl rfl
end Go.Ab
