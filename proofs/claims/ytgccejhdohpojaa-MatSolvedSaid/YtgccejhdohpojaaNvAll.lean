/- A part of the proofs: lemmas, no statement of their own; no condition. -/
import Derived.Test.YtgccejhdohpojaaTrAll
import Derived.Test.YtgccejhdohpojaaLvKeeps
import Derived.Test.YtgccejhdohpojaaNuAll
/- QuatThere: the trees. -/
namespace Go.Ab
open Go Go.Proofs
def axX : V3 := ⟨1099511627776, 0, 0⟩
def axY : V3 := ⟨0, 1099511627776, 0⟩
def axZ : V3 := ⟨0, 0, 1099511627776⟩
def M9.zero : M9 := ⟨V3.zero, V3.zero, V3.zero⟩
def matrix0 (tu : Bool → V4 × V3 × Unit → V3 × Bool) (b : Bool) (q : V4) : M9 × Bool :=
  let c := tu b (q, axX, ())
  let d := tu c.2 (q, axY, ())
  let e := tu d.2 (q, axZ, ())
  (⟨⟨c.1.x, d.1.x, e.1.x⟩, ⟨c.1.y, d.1.y, e.1.y⟩, ⟨c.1.z, d.1.z, e.1.z⟩⟩, e.2)
def matrix (tu : Bool → V4 × V3 × Unit → V3 × Bool) (b : Bool) (p : V4 × Unit) : M9 × Bool := (bif (matrix0 tu b p.1).2 then M9.zero else (matrix0 tu b p.1).1, (matrix0 tu b p.1).2)
theorem matrix101 (tu : Bool → V4 × V3 × Unit → V3 × Bool) (b : Bool) (q : V4) : fnSum Try.prog { gam := [(87, S 25 tu)] } [] 20 101 [.ptr 0 0, .val (Cod.enc q)] (row 25 b) = some (.val (Cod.enc (matrix tu b (q, ())).1), row 25 (matrix tu b (q, ())).2) := by
  refine Eq.trans (?_ : _ = bif (matrix0 tu b q).2 then some (.val (Cod.enc M9.zero), row 25 (matrix0 tu b q).2) else some (.val (Cod.enc (matrix0 tu b q).1), row 25 (matrix0 tu b q).2)) pull
  kernel_rfl
theorem ok101 : SumOk Try.prog 101 (S 25 (matrix (qturn vopsF))) := by
  have hG : GamOk Try.prog [(87, S 25 (qturn vopsF))] := .cons ok87 .nil
  generalize qturn vopsF = tu at *
  exact S_ok (E := { gam := [(87, S 25 tu)] }) hG 20 fun b a => matrix101 tu b a.1
def thereB (fr : Bool → V3 × Unit → V4 × Bool) (tr : Bool → V4 × Unit → V3 × Bool) (p : V3) (f : Bool) : Option (AV × List Con) :=
  nearK p V3.zero 1099511627776 (say true)
    (let q := fr f (p, ())
    let s := tr q.2 (q.1, ())
    bif !s.2 then nearK s.1 p 1024 sayF (say true) else sayF)
theorem law30 (un : Bool → V4 × Unit → V4 × Bool) (mx : Bool → V4 × Unit → M9 × Bool) (fm : Bool → M9 × Unit → V4 × Bool) (mu : Bool → V4 × V4 × Unit → V4 × Bool) (bk : V4 × Unit → V4) (fr : Bool → V3 × Unit → V4 × Bool) (tr : Bool → V4 × Unit → V3 × Bool) (q0 q1 q2 q3 x0 x1 x2 : Int) :
    fnSum Try.prog { gam := [(70, S0 fun (_ : Unit) => true), (72, S 25 un), (101, S 25 mx), (100, S 25 fm), (93, S 27 mu), (94, S0 bk), (80, S 25 fr), (82, S 25 tr)] } [] 20 30 (List.map AV.val [.agg #[.int .i64 q0, .int .i64 q1, .int .i64 q2, .int .i64 q3], .agg #[.int .i64 x0, .int .i64 x1, .int .i64 x2]]) [] =
      let p := V3.mk x0 x1 x2
      let u := un false (⟨q0, q1, q2, q3⟩, ())
      bif !u.2 then
        let m := mx false (u.1, ())
        let w := fm m.2 (m.1, ())
        let d := mu false (w.1, bk (u.1, ()), ())
        bif w.2 then sayF else nearK d.1.v V3.zero 1024 sayF (thereB fr tr p w.2)
      else thereB fr tr p false := by kernel_rfl
end Go.Ab
/- An attitude's matrix, and the attitude of it: the laws. -/
namespace Go.Ab
open Go Go.Proofs
/-- A unit of four numbers, one of which is 1 at least. -/
theorem unit_gen {q : V4} (hw : -1125899906842624 ≤ q.w ∧ q.w ≤ 1125899906842624) (hx : -1125899906842624 ≤ q.x ∧ q.x ≤ 1125899906842624) (hy : -1125899906842624 ≤ q.y ∧ q.y ≤ 1125899906842624) (hz : -1125899906842624 ≤ q.z ∧ q.z ≤ 1125899906842624)
    (big : 549755813888 ≤ q.w ∨ 549755813888 ≤ q.x ∨ 549755813888 ≤ q.y ∨ 549755813888 ≤ q.z) :
    ∃ n r, qunit opsF false (q, ()) = (plain r, false) ∧ (549755813888 ≤ n ∧ n ≤ 4503599627370496) ∧ (q.w ≤ n ∧ q.x ≤ n ∧ q.y ≤ n ∧ q.z ≤ n) ∧
      (n * n ≤ q.w * q.w + q.x * q.x + q.y * q.y + q.z * q.z ∧ q.w * q.w + q.x * q.x + q.y * q.y + q.z * q.z ≤ n * n + 4 * n + 1) ∧
      ((2199023255552 * q.w - n ≤ 2 * n * r.w ∧ 2 * n * r.w ≤ 2199023255552 * q.w + n) ∧ (2199023255552 * q.x - n ≤ 2 * n * r.x ∧ 2 * n * r.x ≤ 2199023255552 * q.x + n) ∧
       (2199023255552 * q.y - n ≤ 2 * n * r.y ∧ 2 * n * r.y ≤ 2199023255552 * q.y + n) ∧ (2199023255552 * q.z - n ≤ 2 * n * r.z ∧ 2 * n * r.z ≤ 2199023255552 * q.z + n)) ∧
      ((-1099511627776 ≤ r.w ∧ r.w ≤ 1099511627776) ∧ (-1099511627776 ≤ r.x ∧ r.x ≤ 1099511627776) ∧ (-1099511627776 ≤ r.y ∧ r.y ≤ 1099511627776) ∧ (-1099511627776 ≤ r.z ∧ r.z ≤ 1099511627776)) := by
  obtain ⟨m, em, m0, m1, m2, m3⟩ := norm_up (t := ⟨q.w, q.x, q.y⟩) (K := 1125899906842624) (by omega) ⟨hw, hx, hy⟩
  have hm : fnorm false q.w q.x q.y = (m, false) := em
  have g1 := mul_bound hw hw
  have g2 := mul_bound hx hx
  have g3 := mul_bound hy hy
  have mle : m ≤ 2251799813685248 := by
    have : m < 2251799813685248 := sq_lt_imp (by omega) (by unfold len2 at m2; dsimp only at m2; omega)
    omega
  obtain ⟨n, en, n0, n1, n2, n3⟩ := norm_up (t := ⟨m, q.z, 0⟩) (K := 2251799813685248) (by omega) ⟨⟨by show _ ≤ m; omega, mle⟩, ⟨by show _ ≤ q.z; omega, by show q.z ≤ _; omega⟩, ⟨by show _ ≤ (0 : Int); omega, by show (0 : Int) ≤ _; omega⟩⟩
  have hn : fnorm false m q.z 0 = (n, false) := en
  have g4 := mul_bound hz hz
  have mm := mul_bound (x := m) (y := m) (K := 2251799813685248) (L := 2251799813685248) (by omega) (by omega)
  have nle : n ≤ 4503599627370496 := by
    have : n < 4503599627370496 := sq_lt_imp (by omega) (by unfold len2 at n2; dsimp only at n2; omega)
    omega
  obtain ⟨p1, p2, p3⟩ := fnorm_parts hm
  obtain ⟨p4, p5, _⟩ := fnorm_parts hn
  have hl : qlen opsF false q = (n, false) := by
    unfold qlen
    simp only [opsF]
    rw [hm]
    exact hn
  have hnb : 549755813888 ≤ n := by omega
  have hnn : num n = true := num_iff.2 (by omega)
  obtain ⟨a, ea, sa, ba⟩ := div_unit (x := q.w) (num_iff.2 (by omega)) (by omega) hnn (by omega)
  obtain ⟨b, eb, sb, bb⟩ := div_unit (x := q.x) (num_iff.2 (by omega)) (by omega) hnn (by omega)
  obtain ⟨c, ec, sc, bc⟩ := div_unit (x := q.y) (num_iff.2 (by omega)) (by omega) hnn (by omega)
  obtain ⟨d, ed, sd, bd⟩ := div_unit (x := q.z) (num_iff.2 (by omega)) (by omega) hnn (by omega)
  refine ⟨n, ⟨a, b, c, d⟩, ?_, ⟨hnb, nle⟩, ⟨by omega, by omega, by omega, by omega⟩, ?_, ⟨sa, sb, sc, sd⟩, ⟨ba, bb, bc, bd⟩⟩
  · unfold qunit
    rw [hl]
    dsimp only
    rw [decide_eq_false (p := n < 549755813888) (by omega), cond_false]
    unfold qunitF
    have e0 : qunit0 opsF q n false = (⟨a, b, c, d⟩, false) := by
      unfold qunit0
      simp only [opsF]
      rw [ea]
      dsimp only
      rw [eb]
      dsimp only
      rw [ec]
      dsimp only
      rw [ed]
    rw [e0]
  · unfold len2 at m2 m3 n2 n3
    dsimp only at m2 m3 n2 n3
    have e1 : (m + 1) * (m + 1) = m * m + 2 * m + 1 := by grind
    have e2 : (n + 1) * (n + 1) = n * n + 2 * n + 1 := by grind
    rw [e1] at m3
    rw [e2] at n3
    omega
theorem plain_cases {r : V4} (h : (-1099511627776 ≤ r.w ∧ r.w ≤ 1099511627776) ∧ (-1099511627776 ≤ r.x ∧ r.x ≤ 1099511627776) ∧ (-1099511627776 ≤ r.y ∧ r.y ≤ 1099511627776) ∧ (-1099511627776 ≤ r.z ∧ r.z ≤ 1099511627776)) :
    plain r = r ∨ plain r = ⟨-r.w, -r.x, -r.y, -r.z⟩ := by
  unfold plain
  cases decide (r.z < 0)
  · exact .inl rfl
  · refine .inr ?_
    rw [cond_true]
    unfold neg4
    rw [wrap_neg h.1, wrap_neg h.2.1, wrap_neg h.2.2.1, wrap_neg h.2.2.2]
/-- What four numbers are, but for little: an attitude, by 4 c. -/
structure Along (u : V4) (c : Int) (q : V4) : Prop where
  x : -(84 * O2) ≤ O2 * q.w - 4398046511104 * (c * u.w) ∧ O2 * q.w - 4398046511104 * (c * u.w) ≤ 84 * O2
  y : -(84 * O2) ≤ O2 * q.x - 4398046511104 * (c * u.x) ∧ O2 * q.x - 4398046511104 * (c * u.x) ≤ 84 * O2
  z : -(84 * O2) ≤ O2 * q.y - 4398046511104 * (c * u.y) ∧ O2 * q.y - 4398046511104 * (c * u.y) ≤ 84 * O2
  w : -(84 * O2) ≤ O2 * q.z - 4398046511104 * (c * u.z) ∧ O2 * q.z - 4398046511104 * (c * u.z) ≤ 84 * O2
/-- How far the unit of such numbers is from the attitude: the vector of the one by the other, gone back. -/
theorem along_mV {u q r : V4} {c n : Int} (hu : QU u) (hq : Along u c q) (hn : 1099511627776 ≤ n)
    (hr : (2199023255552 * q.w - n ≤ 2 * n * r.w ∧ 2 * n * r.w ≤ 2199023255552 * q.w + n) ∧ (2199023255552 * q.x - n ≤ 2 * n * r.x ∧ 2 * n * r.x ≤ 2199023255552 * q.x + n) ∧
       (2199023255552 * q.y - n ≤ 2 * n * r.y ∧ 2 * n * r.y ≤ 2199023255552 * q.y + n) ∧ (2199023255552 * q.z - n ≤ 2 * n * r.z ∧ 2 * n * r.z ≤ 2199023255552 * q.z + n)) :
    Up 371634930188288 (mV r.v (neg3v u.v) r.s u.s) := by
  obtain ⟨hx, hy, hz, hw⟩ := hr
  obtain ⟨A, hA⟩ : ∃ A, A = O2 * q.w - 4398046511104 * (c * u.w) := ⟨_, rfl⟩
  obtain ⟨B, hB⟩ : ∃ B, B = O2 * q.x - 4398046511104 * (c * u.x) := ⟨_, rfl⟩
  obtain ⟨C, hC⟩ : ∃ C, C = O2 * q.y - 4398046511104 * (c * u.y) := ⟨_, rfl⟩
  obtain ⟨D, hD⟩ : ∃ D, D = O2 * q.z - 4398046511104 * (c * u.z) := ⟨_, rfl⟩
  have bA : -(84 * O2) ≤ A ∧ A ≤ 84 * O2 := by rw [hA]; exact hq.x
  have bB : -(84 * O2) ≤ B ∧ B ≤ 84 * O2 := by rw [hB]; exact hq.y
  have bC : -(84 * O2) ≤ C ∧ C ≤ 84 * O2 := by rw [hC]; exact hq.z
  have bD : -(84 * O2) ≤ D ∧ D ≤ 84 * O2 := by rw [hD]; exact hq.w
  obtain ⟨a, ha⟩ : ∃ a, a = 2 * n * r.w - 2199023255552 * q.w := ⟨_, rfl⟩
  obtain ⟨b, hb⟩ : ∃ b, b = 2 * n * r.x - 2199023255552 * q.x := ⟨_, rfl⟩
  obtain ⟨e, he⟩ : ∃ e, e = 2 * n * r.y - 2199023255552 * q.y := ⟨_, rfl⟩
  obtain ⟨d, hd⟩ : ∃ d, d = 2 * n * r.z - 2199023255552 * q.z := ⟨_, rfl⟩
  have ba : -n ≤ a ∧ a ≤ n := by omega
  have bb : -n ≤ b ∧ b ≤ n := by omega
  have be : -n ≤ e ∧ e ≤ n := by omega
  have bd : -n ≤ d ∧ d ≤ n := by omega
  have ux := hu.v.x
  have uy := hu.v.y
  have uz := hu.v.z
  have us := hu.s
  have ma1 := mul_bound us bA
  have ma2 := mul_bound us bB
  have ma3 := mul_bound us bC
  have md1 := mul_bound bD ux
  have md2 := mul_bound bD uy
  have md3 := mul_bound bD uz
  have w1 := mul_bound bB uz
  have w2 := mul_bound bC uy
  have w3 := mul_bound bA uz
  have w4 := mul_bound bC ux
  have w5 := mul_bound bB ux
  have w6 := mul_bound bA uy
  have na1 := mul_bound us ba
  have na2 := mul_bound us bb
  have na3 := mul_bound us be
  have nd1 := mul_bound bd ux
  have nd2 := mul_bound bd uy
  have nd3 := mul_bound bd uz
  have v1 := mul_bound bb uz
  have v2 := mul_bound be uy
  have v3 := mul_bound ba uz
  have v4 := mul_bound be ux
  have v5 := mul_bound bb ux
  have v6 := mul_bound ba uy
  have kx : O2 * (2 * n * (mV r.v (neg3v u.v) r.s u.s).x) = 2199023255552 * (u.s * A - D * u.v.x + B * u.v.z - C * u.v.y) + O2 * (u.s * a - d * u.v.x + b * u.v.z - e * u.v.y) := by
    simp only [mV, W3, V4.v, V4.s, O2] at *
    grind
  have ky : O2 * (2 * n * (mV r.v (neg3v u.v) r.s u.s).y) = 2199023255552 * (u.s * B - D * u.v.y - A * u.v.z + C * u.v.x) + O2 * (u.s * b - d * u.v.y - a * u.v.z + e * u.v.x) := by
    simp only [mV, W3, V4.v, V4.s, O2] at *
    grind
  have kz : O2 * (2 * n * (mV r.v (neg3v u.v) r.s u.s).z) = 2199023255552 * (u.s * C - D * u.v.z - B * u.v.x + A * u.v.y) + O2 * (u.s * e - d * u.v.z - b * u.v.x + a * u.v.y) := by
    simp only [mV, W3, V4.v, V4.s, O2] at *
    grind
  have fin : ∀ M : Int, -(4 * (2199023255552 * (1099511627776 * (84 * O2))) + 4 * (O2 * (1099511627776 * n))) ≤ O2 * (2 * n * M) → O2 * (2 * n * M) ≤ 4 * (2199023255552 * (1099511627776 * (84 * O2))) + 4 * (O2 * (1099511627776 * n)) → -371634930188288 ≤ M ∧ M ≤ 371634930188288 := by
    intro M h1 h2
    have e1 : 2 * n * M = 2 * (n * M) := by rw [Int.mul_assoc]
    rw [e1] at h1 h2
    simp only [O2] at h1 h2
    constructor
    · refine le_of_mul2 (n := n) (by omega) ?_
      have : n * -371634930188288 = -(371634930188288 * n) := by rw [Int.mul_neg, Int.mul_comm]
      omega
    · refine le_of_mul2 (n := n) (by omega) ?_
      have : n * 371634930188288 = 371634930188288 * n := Int.mul_comm _ _
      omega
  have c1 : 1099511627776 * n = n * 1099511627776 := Int.mul_comm _ _
  refine ⟨fin _ ?_ ?_, fin _ ?_ ?_, fin _ ?_ ?_⟩ <;> simp only [O2] at * <;> omega
end Go.Ab
/- An attitude's matrix, and the attitude of it: how far it is off. -/
namespace Go.Ab
open Go Go.Proofs
theorem axes_up : Up 1099511627776 axX ∧ Up 1099511627776 axY ∧ Up 1099511627776 axZ :=
  ⟨⟨by decide, by decide, by decide⟩, ⟨by decide, by decide, by decide⟩, ⟨by decide, by decide, by decide⟩⟩
/-- A matrix as an attitude's. -/
structure MOk (u : V4) (m : M9) : Prop where
  c0 : Off3 ⟨m.a.x, m.b.x, m.c.x⟩ (T3 u.v u.s axX) 9671406556917033397649408
  c1 : Off3 ⟨m.a.y, m.b.y, m.c.y⟩ (T3 u.v u.s axY) 9671406556917033397649408
  c2 : Off3 ⟨m.a.z, m.b.z, m.c.z⟩ (T3 u.v u.s axZ) 9671406556917033397649408
theorem matrix_ok {u : V4} (hu : QU u) : ∃ m, matrix (qturn vopsF) false (u, ()) = (m, false) ∧ MOk u m := by
  obtain ⟨hx, hy, hz⟩ := axes_up
  obtain ⟨c, hc, c1, c2, c3⟩ := turn_unit (K := 1099511627776) (by omega) (by omega) hu.v hu.s hx
  obtain ⟨d, hd, d1, d2, d3⟩ := turn_unit (K := 1099511627776) (by omega) (by omega) hu.v hu.s hy
  obtain ⟨e, he, e1, e2, e3⟩ := turn_unit (K := 1099511627776) (by omega) (by omega) hu.v hu.s hz
  refine ⟨⟨⟨c.x, d.x, e.x⟩, ⟨c.y, d.y, e.y⟩, ⟨c.z, d.z, e.z⟩⟩, ?_, ⟨⟨c1, c2, c3⟩, ⟨d1, d2, d3⟩, ⟨e1, e2, e3⟩⟩⟩
  unfold matrix matrix0
  dsimp only
  rw [hc]
  dsimp only
  rw [hd]
  dsimp only
  rw [he]
  rfl
abbrev B4 : Int := 17592186044416
structure MUp (m : M9) : Prop where
  a : Up 17592186044416 m.a
  b : Up 17592186044416 m.b
  c : Up 17592186044416 m.c
theorem MOk.up {u : V4} {m : M9} (hu : QU u) (h : MOk u m) : MUp m := by
  obtain ⟨hx, hy, hz⟩ := axes_up
  have a := turn_up hu hx h.c0
  have b := turn_up hu hy h.c1
  have c := turn_up hu hz h.c2
  have a1 := a.x
  have a2 := a.y
  have a3 := a.z
  have b1 := b.x
  have b2 := b.y
  have b3 := b.z
  have c1 := c.x
  have c2 := c.y
  have c3 := c.z
  dsimp only at *
  exact ⟨⟨by omega, by omega, by omega⟩, ⟨by omega, by omega, by omega⟩, ⟨by omega, by omega, by omega⟩⟩
theorem sub_ok {a b : Int} (ha : -1125899906842624 ≤ a ∧ a ≤ 1125899906842624) (hb : -1125899906842624 ≤ b ∧ b ≤ 1125899906842624) : fsub false a b = (a - b, false) :=
  fsub_fine (num_small (by omega) (by omega)) (num_small (by omega) (by omega)) (num_small (by omega) (by omega))
theorem add_ok {a b : Int} (ha : -1125899906842624 ≤ a ∧ a ≤ 1125899906842624) (hb : -1125899906842624 ≤ b ∧ b ≤ 1125899906842624) : fadd false a b = (a + b, false) :=
  fadd_fine (num_small (by omega) (by omega)) (num_small (by omega) (by omega)) (num_small (by omega) (by omega))
theorem flow3_ok {r : V3} (h : Up 17592186044416 r) : flow3 opsF r false = false := by
  have hx := h.x
  have hy := h.y
  have hz := h.z
  unfold flow3 each3
  simp only [opsF]
  rw [add_ok (a := r.x) (b := 0) (by omega) (by omega)]
  dsimp only
  rw [add_ok (a := r.y) (b := 0) (by omega) (by omega)]
  dsimp only
  rw [add_ok (a := r.z) (b := 0) (by omega) (by omega)]
theorem fmT_ok {m : M9} (h : MUp m) : fmT opsF m false = (m.a.x + m.b.y + m.c.z, false) := by
  have hx := h.a.x
  have hy := h.b.y
  have hz := h.c.z
  unfold fmT
  simp only [opsF]
  rw [add_ok (a := m.a.x) (b := m.b.y) (by omega) (by omega)]
  dsimp only
  exact add_ok (by omega) (by omega)
theorem fmF_ok {m : M9} (h : MUp m) : fmF opsF m false = false := by
  unfold fmF
  rw [fmT_ok h]
  dsimp only
  rw [flow3_ok h.a, flow3_ok h.b, flow3_ok h.c]
theorem fmBase_ok {m : M9} (h : MUp m) : fmBase opsF m false = (⟨m.b.z - m.c.y, m.c.x - m.a.z, m.a.y - m.b.x⟩, false) := by
  have a1 := h.a.y
  have a2 := h.a.z
  have b1 := h.b.x
  have b2 := h.b.z
  have c1 := h.c.x
  have c2 := h.c.y
  unfold fmBase
  simp only [opsF]
  rw [sub_ok (a := m.b.z) (b := m.c.y) (by omega) (by omega)]
  dsimp only
  rw [sub_ok (a := m.c.x) (b := m.a.z) (by omega) (by omega)]
  dsimp only
  rw [sub_ok (a := m.a.y) (b := m.b.x) (by omega) (by omega)]
theorem fmD_ok {p q r : Int} (hp : -17592186044416 ≤ p ∧ p ≤ 17592186044416) (hq : -17592186044416 ≤ q ∧ q ≤ 17592186044416) (hr : -17592186044416 ≤ r ∧ r ≤ 17592186044416) : fmD opsF false p q r = (1099511627776 + p - q - r, false) := by
  unfold fmD
  simp only [opsF]
  rw [add_ok (a := 1099511627776) (b := p) (by omega) (by omega)]
  dsimp only
  rw [sub_ok (a := 1099511627776 + p) (b := q) (by omega) (by omega)]
  dsimp only
  exact sub_ok (by omega) (by omega)
/-- The four numbers of a matrix. -/
def qL (m : M9) : V4 := ⟨m.b.z - m.c.y, m.c.x - m.a.z, m.a.y - m.b.x, 1099511627776 + (m.a.x + m.b.y + m.c.z)⟩
def q0 (m : M9) : V4 := ⟨1099511627776 + m.a.x - m.b.y - m.c.z, m.a.y + m.b.x, m.a.z + m.c.x, m.b.z - m.c.y⟩
def q1 (m : M9) : V4 := ⟨m.b.x + m.a.y, 1099511627776 + m.b.y - m.c.z - m.a.x, m.b.z + m.c.y, m.c.x - m.a.z⟩
def q2 (m : M9) : V4 := ⟨m.c.x + m.a.z, m.c.y + m.b.z, 1099511627776 + m.c.z - m.a.x - m.b.y, m.a.y - m.b.x⟩
theorem fm_vals {m : M9} (h : MUp m) (un : Bool → V4 × Unit → V4 × Bool) : fmL opsF un m (m.a.x + m.b.y + m.c.z) false = un false (qL m, ()) ∧ fm0 opsF un m false = un false (q0 m, ()) ∧ fm1 opsF un m false = un false (q1 m, ()) ∧ fm2 opsF un m false = un false (q2 m, ()) := by
  have a1 := h.a.x
  have a2 := h.a.y
  have a3 := h.a.z
  have b1 := h.b.x
  have b2 := h.b.y
  have b3 := h.b.z
  have c1 := h.c.x
  have c2 := h.c.y
  have c3 := h.c.z
  refine ⟨?_, ?_, ?_, ?_⟩
  · unfold fmL
    rw [fmBase_ok h]
    simp only [opsF]
    rw [add_ok (a := 1099511627776) (b := m.a.x + m.b.y + m.c.z) (by omega) (by omega)]
    rfl
  · unfold fm0
    rw [fmBase_ok h]
    dsimp only
    rw [fmD_ok a1 b2 c3]
    simp only [opsF]
    rw [add_ok (a := m.a.y) (b := m.b.x) (by omega) (by omega)]
    dsimp only
    rw [add_ok (a := m.a.z) (b := m.c.x) (by omega) (by omega)]
    rfl
  · unfold fm1
    rw [fmBase_ok h]
    dsimp only
    rw [fmD_ok b2 c3 a1]
    simp only [opsF]
    rw [add_ok (a := m.b.z) (b := m.c.y) (by omega) (by omega)]
    dsimp only
    rw [add_ok (a := m.b.x) (b := m.a.y) (by omega) (by omega)]
    rfl
  · unfold fm2
    rw [fmBase_ok h]
    dsimp only
    rw [fmD_ok c3 a1 b2]
    simp only [opsF]
    rw [add_ok (a := m.c.x) (b := m.a.z) (by omega) (by omega)]
    dsimp only
    rw [add_ok (a := m.c.y) (b := m.b.z) (by omega) (by omega)]
    rfl
/-- What was found: the unit of numbers that go along the attitude. -/
structure Found (u w : V4) : Prop where
  qu : QU w
  ex : ∃ n r c q, w = plain r ∧ Along u c q ∧ 1099511627776 ≤ n ∧ ((2199023255552 * q.w - n ≤ 2 * n * r.w ∧ 2 * n * r.w ≤ 2199023255552 * q.w + n) ∧ (2199023255552 * q.x - n ≤ 2 * n * r.x ∧ 2 * n * r.x ≤ 2199023255552 * q.x + n) ∧
       (2199023255552 * q.y - n ≤ 2 * n * r.y ∧ 2 * n * r.y ≤ 2199023255552 * q.y + n) ∧ (2199023255552 * q.z - n ≤ 2 * n * r.z ∧ 2 * n * r.z ≤ 2199023255552 * q.z + n)) ∧
      ((-1099511627776 ≤ r.w ∧ r.w ≤ 1099511627776) ∧ (-1099511627776 ≤ r.x ∧ r.x ≤ 1099511627776) ∧ (-1099511627776 ≤ r.y ∧ r.y ≤ 1099511627776) ∧ (-1099511627776 ≤ r.z ∧ r.z ≤ 1099511627776))
theorem found_of {u q : V4} {c : Int} (hq : Along u c q) (hw : -1125899906842624 ≤ q.w ∧ q.w ≤ 1125899906842624) (hx : -1125899906842624 ≤ q.x ∧ q.x ≤ 1125899906842624) (hy : -1125899906842624 ≤ q.y ∧ q.y ≤ 1125899906842624) (hz : -1125899906842624 ≤ q.z ∧ q.z ≤ 1125899906842624)
    (big : 1099511627776 ≤ q.w ∨ 1099511627776 ≤ q.x ∨ 1099511627776 ≤ q.y ∨ 1099511627776 ≤ q.z) : ∃ w, qunit opsF false (q, ()) = (w, false) ∧ Found u w := by
  obtain ⟨n, r, h1, _, h3, _, h5, h6⟩ := unit_gen hw hx hy hz (by omega)
  exact ⟨plain r, h1, qunit_ok h1, ⟨n, r, c, q, rfl, hq, by omega, h5, h6⟩⟩
theorem from_ok {u : V4} {m : M9} (hu : QU u) (hm : MOk u m) : ∃ w, fromMat opsF (qunit opsF) false (m, ()) = (w, false) ∧ Found u w := by
  have hup := hm.up hu
  obtain ⟨eL, e0, e1, e2⟩ := fm_vals hup (qunit opsF)
  have a1 := hup.a.x
  have a2 := hup.a.y
  have a3 := hup.a.z
  have b1 := hup.b.x
  have b2 := hup.b.y
  have b3 := hup.b.z
  have c1 := hup.c.x
  have c2 := hup.c.y
  have c3 := hup.c.z
  have k00 := hm.c0.x
  have k10 := hm.c0.y
  have k20 := hm.c0.z
  have k01 := hm.c1.x
  have k11 := hm.c1.y
  have k21 := hm.c1.z
  have k02 := hm.c2.x
  have k12 := hm.c2.y
  have k22 := hm.c2.z
  have hlo := hu.lo
  have hhi := hu.hi
  unfold Off at k00 k10 k20 k01 k11 k21 k02 k12 k22
  simp only [T3, W3, axX, axY, axZ, V4.v, V4.s] at k00 k10 k20 k01 k11 k21 k02 k12 k22
  simp only [V4.v, V4.s] at hlo hhi
  have hL : Along u u.z (qL m) := by
    refine ⟨?_, ?_, ?_, ?_⟩ <;> simp only [qL, O2] <;> constructor <;> grind
  have h0 : Along u u.w (q0 m) := by
    refine ⟨?_, ?_, ?_, ?_⟩ <;> simp only [q0, O2] <;> constructor <;> grind
  have h1 : Along u u.x (q1 m) := by
    refine ⟨?_, ?_, ?_, ?_⟩ <;> simp only [q1, O2] <;> constructor <;> grind
  have h2 : Along u u.y (q2 m) := by
    refine ⟨?_, ?_, ?_, ?_⟩ <;> simp only [q2, O2] <;> constructor <;> grind
  clear k00 k10 k20 k01 k11 k21 k02 k12 k22
  have fL : 0 ≤ m.a.x + m.b.y + m.c.z → ∃ w, qunit opsF false (qL m, ()) = (w, false) ∧ Found u w := fun hb =>
    found_of hL (by simp only [qL]; omega) (by simp only [qL]; omega) (by simp only [qL]; omega) (by simp only [qL]; omega) (by simp only [qL]; omega)
  have f0 : 0 ≤ m.a.x - m.b.y - m.c.z → ∃ w, qunit opsF false (q0 m, ()) = (w, false) ∧ Found u w := fun hb =>
    found_of h0 (by simp only [q0]; omega) (by simp only [q0]; omega) (by simp only [q0]; omega) (by simp only [q0]; omega) (by simp only [q0]; omega)
  have f1 : 0 ≤ m.b.y - m.c.z - m.a.x → ∃ w, qunit opsF false (q1 m, ()) = (w, false) ∧ Found u w := fun hb =>
    found_of h1 (by simp only [q1]; omega) (by simp only [q1]; omega) (by simp only [q1]; omega) (by simp only [q1]; omega) (by simp only [q1]; omega)
  have f2 : 0 ≤ m.c.z - m.a.x - m.b.y → ∃ w, qunit opsF false (q2 m, ()) = (w, false) ∧ Found u w := fun hb =>
    found_of h2 (by simp only [q2]; omega) (by simp only [q2]; omega) (by simp only [q2]; omega) (by simp only [q2]; omega) (by simp only [q2]; omega)
  unfold fromMat
  dsimp only
  rw [fmF_ok hup, fmT_ok hup]
  dsimp only
  rw [cond_false, eL, e0, e1, e2]
  unfold fmPick
  by_cases g1 : m.a.x > m.a.x + m.b.y + m.c.z
  · rw [decide_eq_true g1, cond_true]
    by_cases g2 : m.b.y > m.a.x
    · rw [decide_eq_true g2, cond_true]
      by_cases g3 : m.c.z > m.b.y
      · rw [decide_eq_true g3, cond_true]; exact f2 (by omega)
      · rw [decide_eq_false g3, cond_false]; exact f1 (by omega)
    · rw [decide_eq_false g2, cond_false]
      by_cases g3 : m.c.z > m.a.x
      · rw [decide_eq_true g3, cond_true]; exact f2 (by omega)
      · rw [decide_eq_false g3, cond_false]; exact f0 (by omega)
  · rw [decide_eq_false g1, cond_false]
    by_cases g2 : m.b.y > m.a.x + m.b.y + m.c.z
    · rw [decide_eq_true g2, cond_true]
      by_cases g3 : m.c.z > m.b.y
      · rw [decide_eq_true g3, cond_true]; exact f2 (by omega)
      · rw [decide_eq_false g3, cond_false]; exact f1 (by omega)
    · rw [decide_eq_false g2, cond_false]
      by_cases g3 : m.c.z > m.a.x + m.b.y + m.c.z
      · rw [decide_eq_true g3, cond_true]; exact f2 (by omega)
      · rw [decide_eq_false g3, cond_false]; exact fL (by omega)
/-- What was found goes back to nothing, but for little. -/
theorem found_mV {u w : V4} (hu : QU u) (h : Found u w) : Up 371634930188288 (mV w.v (neg3v u.v) w.s u.s) := by
  obtain ⟨n, r, c, q, rfl, hq, hn, h5, h6⟩ := h.ex
  have hm := along_mV hu hq hn h5
  rcases plain_cases h6 with e | e
  · rw [e]; exact hm
  · rw [e]
    have hx := hm.x
    have hy := hm.y
    have hz := hm.z
    simp only [mV, W3, V4.v, V4.s] at hx hy hz ⊢
    refine ⟨?_, ?_, ?_⟩ <;> dsimp only <;> constructor <;> grind
end Go.Ab
/- Rodrigues vectors: their attitude's vector is that vector, but for little. -/
namespace Go.Ab
open Go Go.Proofs
theorem mul_k {x : Int} (hx : -2251799813685248 ≤ x ∧ x ≤ 2251799813685248) : fmul false x 8796093022208 = (8 * x, false) ∧ fmul false x 4398046511104 = (4 * x, false) := by
  obtain ⟨v, e, h1, h2⟩ := mul_small hx (b := 8796093022208) (by omega)
  obtain ⟨w, f, k1, k2⟩ := mul_small hx (b := 4398046511104) (by omega)
  rw [e, f]
  constructor <;> congr 1 <;> omega
theorem div_big {x n : Int} (hx : -35184372088832 ≤ x ∧ x ≤ 35184372088832) (hn : 1099511627776 ≤ n ∧ n ≤ 35184372088832) : ∃ v, fdiv false x n = (v, false) ∧ 2199023255552 * x - n ≤ 2 * n * v ∧ 2 * n * v ≤ 2199023255552 * x + n := by
  have e : (false || !nums? [x, n]) = false := by simp [nums?, num_small (x := x) (by omega) (by omega), num_small (x := n) (by omega) (by omega)]
  have h : fdiv false x n = (ratio3 x 1099511627776 n, false) := by
    unfold fdiv
    rw [e, cond_false]
    have e1 : iabs n = n := iabs_of_nonneg (by omega)
    have e2 : iabs 1099511627776 = 1099511627776 := rfl
    refine fratio_ok (by rw [e1]; omega) ?_
    rw [e1, e2]
    have := iabs_le (n := 35184372088832) hx
    omega
  exact ⟨_, h, fdiv_spec (by omega) h⟩
/-- The numbers of a Rodrigues vector's attitude, ahead of the unit. -/
structure RodQ (p : V3) (d : Int) (q : V4) : Prop where
  d0 : -1 ≤ d ∧ d ≤ 3298534883330
  dd : -3298534883328 ≤ 2199023255552 * d - 2 * (p.x * p.x + p.y * p.y + p.z * p.z) ∧ 2199023255552 * d - 2 * (p.x * p.x + p.y * p.y + p.z * p.z) ≤ 3298534883328
  x : -(17592186044416 + d) ≤ 2 * (17592186044416 + d) * q.w - 17592186044416 * p.x ∧ 2 * (17592186044416 + d) * q.w - 17592186044416 * p.x ≤ 17592186044416 + d
  y : -(17592186044416 + d) ≤ 2 * (17592186044416 + d) * q.x - 17592186044416 * p.y ∧ 2 * (17592186044416 + d) * q.x - 17592186044416 * p.y ≤ 17592186044416 + d
  z : -(17592186044416 + d) ≤ 2 * (17592186044416 + d) * q.y - 17592186044416 * p.z ∧ 2 * (17592186044416 + d) * q.y - 17592186044416 * p.z ≤ 17592186044416 + d
  w : -(17592186044416 + d) ≤ 2 * (17592186044416 + d) * q.z - 2199023255552 * (17592186044416 - d) ∧ 2 * (17592186044416 + d) * q.z - 2199023255552 * (17592186044416 - d) ≤ 17592186044416 + d
  bx : -1099511627776 ≤ q.w ∧ q.w ≤ 1099511627776
  by' : -1099511627776 ≤ q.x ∧ q.x ≤ 1099511627776
  bz : -1099511627776 ≤ q.y ∧ q.y ≤ 1099511627776
  bw : -1099511627778 ≤ q.z ∧ q.z ≤ 1099511627778
theorem rod_ok {p : V3} (hp : Up 1099511627776 p) : ∃ d q, rodAt opsF vopsF false p = (q, false) ∧ RodQ p d q := by
  have px := hp.x
  have py := hp.y
  have pz := hp.z
  obtain ⟨d, ed, d1, d2⟩ := dot_ok (u := p) (w := p) hp.small3 (by omega) (by omega) (by omega)
  have g1 := mul_bound px px
  have g2 := mul_bound py py
  have g3 := mul_bound pz pz
  have s1 := sq_nonneg p.x
  have s2 := sq_nonneg p.y
  have s3 := sq_nonneg p.z
  have hd : -1 ≤ d ∧ d ≤ 3298534883330 := by omega
  have hnum : num (17592186044416 + d) = true := num_small (by omega) (by omega)
  obtain ⟨x, ex, sx, bx⟩ := div_unit (x := 8 * p.x) (n := 17592186044416 + d) (num_small (by omega) (by omega)) (by omega) hnum (by omega)
  obtain ⟨y, ey, sy, by'⟩ := div_unit (x := 8 * p.y) (n := 17592186044416 + d) (num_small (by omega) (by omega)) (by omega) hnum (by omega)
  obtain ⟨z, ez, sz, bz⟩ := div_unit (x := 8 * p.z) (n := 17592186044416 + d) (num_small (by omega) (by omega)) (by omega) hnum (by omega)
  obtain ⟨w, ew, sw⟩ := div_big (x := 17592186044416 - d) (n := 17592186044416 + d) (by omega) (by omega)
  have bw : -1099511627778 ≤ w ∧ w ≤ 1099511627778 := by
    obtain ⟨t1, t2⟩ := sw
    have e1 : 2 * (17592186044416 + d) * w = (17592186044416 + d) * (2 * w) := by grind
    rw [e1] at t1 t2
    constructor
    · have : (17592186044416 + d) * (-3) ≤ (17592186044416 + d) * (2 * w) := by omega
      have := le_of_mul2 (by omega) this
      omega
    · have : (17592186044416 + d) * (2 * w) ≤ (17592186044416 + d) * 2199023255555 := by omega
      have := le_of_mul2 (by omega) this
      omega
  refine ⟨d, ⟨x, y, z, w⟩, ?_, ⟨hd, ⟨by omega, by omega⟩, ⟨by dsimp only; omega, by dsimp only; omega⟩, ⟨by dsimp only; omega, by dsimp only; omega⟩, ⟨by dsimp only; omega, by dsimp only; omega⟩, ⟨by dsimp only; omega, by dsimp only; omega⟩, bx, by', bz, bw⟩⟩
  unfold rodAt rod0 each3 muldiv
  simp only [vopsF, opsF]
  rw [ed]
  dsimp only
  rw [add_ok (a := 17592186044416) (b := d) (by omega) (by omega)]
  dsimp only
  rw [(mul_k (x := p.x) (by omega)).1]
  dsimp only
  rw [ex]
  dsimp only
  rw [(mul_k (x := p.y) (by omega)).1]
  dsimp only
  rw [ey]
  dsimp only
  rw [(mul_k (x := p.z) (by omega)).1]
  dsimp only
  rw [ez]
  dsimp only
  rw [sub_ok (a := 17592186044416) (b := d) (by omega) (by omega)]
  dsimp only
  rw [ew]
  rfl
/-- They are 1 long, but for little. -/
theorem rod_len {p : V3} {d : Int} {q : V4} (hp : Up 1099511627776 p) (h : RodQ p d q) :
    1208925819614629174706176 - 3298534883329 ≤ q.w * q.w + q.x * q.x + q.y * q.y + q.z * q.z ∧ q.w * q.w + q.x * q.x + q.y * q.y + q.z * q.z ≤ 1208925819614629174706176 + 3298534883329 := by
  obtain ⟨d0, dd, hx, hy, hz, hw, _, _, _, _⟩ := h
  obtain ⟨e, he⟩ : ∃ e, e = 17592186044416 + d := ⟨_, rfl⟩
  rw [← he] at hx hy hz hw
  obtain ⟨A, hA⟩ : ∃ A, A = 2 * e * q.w - 17592186044416 * p.x := ⟨_, rfl⟩
  obtain ⟨B, hB⟩ : ∃ B, B = 2 * e * q.x - 17592186044416 * p.y := ⟨_, rfl⟩
  obtain ⟨C, hC⟩ : ∃ C, C = 2 * e * q.y - 17592186044416 * p.z := ⟨_, rfl⟩
  obtain ⟨D, hD⟩ : ∃ D, D = 2 * e * q.z - 2199023255552 * (17592186044416 - d) := ⟨_, rfl⟩
  obtain ⟨δ, hδ⟩ : ∃ δ, δ = 2 * (p.x * p.x + p.y * p.y + p.z * p.z) - 2199023255552 * d := ⟨_, rfl⟩
  have bA : -e ≤ A ∧ A ≤ e := by omega
  have bB : -e ≤ B ∧ B ≤ e := by omega
  have bC : -e ≤ C ∧ C ≤ e := by omega
  have bD : -e ≤ D ∧ D ≤ e := by omega
  have m1 := mul_bound hp.x bA
  have m2 := mul_bound hp.y bB
  have m3 := mul_bound hp.z bC
  have m4 := mul_bound (x := 17592186044416 - d) (K := 17592186044417) (by omega) bD
  have n1 := mul_bound bA bA
  have n2 := mul_bound bB bB
  have n3 := mul_bound bC bC
  have n4 := mul_bound bD bD
  have z1 := sq_nonneg A
  have z2 := sq_nonneg B
  have z3 := sq_nonneg C
  have z4 := sq_nonneg D
  have key : e * e * (4 * (q.w * q.w + q.x * q.x + q.y * q.y + q.z * q.z)) = e * e * 4835703278458516698824704 + 154742504910672534362390528 * δ + 35184372088832 * (p.x * A + p.y * B + p.z * C) + 4398046511104 * ((17592186044416 - d) * D) + (A * A + B * B + C * C + D * D) := by
    have e1 : 2 * e * q.w = 17592186044416 * p.x + A := by omega
    have e2 : 2 * e * q.x = 17592186044416 * p.y + B := by omega
    have e3 : 2 * e * q.y = 17592186044416 * p.z + C := by omega
    have e4 : 2 * e * q.z = 2199023255552 * (17592186044416 - d) + D := by omega
    have e5 : e * e * (4 * (q.w * q.w + q.x * q.x + q.y * q.y + q.z * q.z)) = (2 * e * q.w) * (2 * e * q.w) + (2 * e * q.x) * (2 * e * q.x) + (2 * e * q.y) * (2 * e * q.y) + (2 * e * q.z) * (2 * e * q.z) := by grind
    rw [e5, e1, e2, e3, e4]
    have e6 : 2 * (p.x * p.x + p.y * p.y + p.z * p.z) = 2199023255552 * d + δ := by omega
    have e7 : d = e - 17592186044416 := by omega
    clear hx hy hz hw hA hB hC hD e1 e2 e3 e4 e5 m1 m2 m3 m4 n1 n2 n3 n4 bA bB bC bD z1 z2 z3 z4 hδ dd
    grind
  have hb : 186 * (1208925819614629174706176 * e) ≤ 12 * (1099511627776 * (e * e)) := by
    have : 186 * 1099511627776 * (1099511627776 * e) ≤ 12 * e * (1099511627776 * e) := Int.mul_le_mul_of_nonneg_right (by omega) (by omega)
    have e8 : 12 * e * (1099511627776 * e) = 12 * (1099511627776 * (e * e)) := by grind
    omega
  have hp2 : 0 < e * e := Int.mul_pos (by omega) (by omega)
  generalize q.w * q.w + q.x * q.x + q.y * q.y + q.z * q.z = N at *
  constructor
  · have : e * e * (4835703278458516698824704 - 13194139533316) ≤ e * e * (4 * N) := by
      have e9 : e * e * (4835703278458516698824704 - 13194139533316) = e * e * 4835703278458516698824704 - 13194139533316 * (e * e) := by grind
      rw [e9, key]
      omega
    have := le_of_mul2 hp2 this
    omega
  · have : e * e * (4 * N) ≤ e * e * (4835703278458516698824704 + 13194139533316) := by
      have e9 : e * e * (4835703278458516698824704 + 13194139533316) = e * e * 4835703278458516698824704 + 13194139533316 * (e * e) := by grind
      rw [e9, key]
      omega
    have := le_of_mul2 hp2 this
    omega
end Go.Ab
/- Rodrigues vectors: there and back. -/
namespace Go.Ab
open Go Go.Proofs
theorem near_part {n q r : Int} (hn : -4 ≤ n - 1099511627776 ∧ n - 1099511627776 ≤ 4) (hr : -1099511627776 ≤ r ∧ r ≤ 1099511627776) (h : 2199023255552 * q - n ≤ 2 * n * r ∧ 2 * n * r ≤ 2199023255552 * q + n) : -5 ≤ r - q ∧ r - q ≤ 5 := by
  have m := mul_bound hn hr
  have e : 2 * n * r = 2199023255552 * r + 2 * ((n - 1099511627776) * r) := by grind
  rw [e] at h
  omega
theorem back_part {e e' p q r s q4 r4 : Int} (he : 17592186044415 ≤ e) (hp : -1099511627776 ≤ p ∧ p ≤ 1099511627776) (hr : -5 ≤ r - q ∧ r - q ≤ 5) (hr4 : -5 ≤ r4 - q4 ∧ r4 - q4 ≤ 5)
    (hq : -e ≤ 2 * e * q - 17592186044416 * p ∧ 2 * e * q - 17592186044416 * p ≤ e) (hq4 : -e ≤ 2 * e * (1099511627776 + q4) - 77371252455336267181195264 ∧ 2 * e * (1099511627776 + q4) - 77371252455336267181195264 ≤ e)
    (he' : e' = 1099511627776 + r4) (h1 : 1099511627776 ≤ e') (hs : 2199023255552 * (4 * r) - e' ≤ 2 * e' * s ∧ 2 * e' * s ≤ 2199023255552 * (4 * r) + e') : -30 ≤ s - p ∧ s - p ≤ 30 := by
  obtain ⟨A, hA⟩ : ∃ A, A = 2 * e * q - 17592186044416 * p := ⟨_, rfl⟩
  obtain ⟨D, hD⟩ : ∃ D, D = 2 * e * (1099511627776 + q4) - 77371252455336267181195264 := ⟨_, rfl⟩
  have bA : -e ≤ A ∧ A ≤ e := by rw [hA]; exact hq
  have bD : -e ≤ D ∧ D ≤ e := by rw [hD]; exact hq4
  have m1 := mul_bound bD hp
  have m2 := mul_bound hr4 hp
  obtain ⟨X, hX⟩ : ∃ X, X = (1099511627776 + q4) * p - 4398046511104 * q := ⟨_, rfl⟩
  have key : e * (2 * X) = D * p - 4398046511104 * A := by
    have k1 : e * (2 * X) = (2 * e * (1099511627776 + q4)) * p - 4398046511104 * (2 * e * q) := by rw [hX]; grind
    have k2 : 2 * e * (1099511627776 + q4) = D + 77371252455336267181195264 := by omega
    have k3 : 2 * e * q = A + 17592186044416 * p := by omega
    rw [k1, k2, k3]
    grind
  have c1 : e * 1099511627776 = 1099511627776 * e := Int.mul_comm _ _
  have bX : -5497558138880 ≤ 2 * X ∧ 2 * X ≤ 5497558138880 := by
    constructor
    · refine le_of_mul2 (n := e) (by omega) ?_
      have : e * -5497558138880 = -(5497558138880 * e) := by rw [Int.mul_neg, Int.mul_comm]
      omega
    · refine le_of_mul2 (n := e) (by omega) ?_
      have : e * 5497558138880 = 5497558138880 * e := Int.mul_comm _ _
      omega
  have hY : e' * p - 4398046511104 * r = X + (r4 - q4) * p - 4398046511104 * (r - q) := by rw [hX, he']; grind
  have hfin : e' * (2 * (s - p)) = (2 * e' * s - 2199023255552 * (4 * r)) - 2 * (e' * p - 4398046511104 * r) := by grind
  generalize e' * p - 4398046511104 * r = Y at *
  have hb : -(60 * e') ≤ e' * (2 * (s - p)) ∧ e' * (2 * (s - p)) ≤ 60 * e' := by omega
  constructor
  · have : e' * (-60) ≤ e' * (2 * (s - p)) := by
      have : e' * (-60) = -(60 * e') := by rw [Int.mul_neg, Int.mul_comm]
      omega
    have := le_of_mul2 (by omega) this
    omega
  · have : e' * (2 * (s - p)) ≤ e' * 60 := by
      have : e' * 60 = 60 * e' := Int.mul_comm _ _
      omega
    have := le_of_mul2 (by omega) this
    omega
theorem rod_back {p : V3} (hp : Up 1099511627776 p) : ∃ u s, fromRod opsF vopsF (qunit opsF) false (p, ()) = (u, false) ∧ toRod opsF false (u, ()) = (s, false) ∧
    (-30 ≤ s.x - p.x ∧ s.x - p.x ≤ 30) ∧ (-30 ≤ s.y - p.y ∧ s.y - p.y ≤ 30) ∧ (-30 ≤ s.z - p.z ∧ s.z - p.z ≤ 30) := by
  obtain ⟨d, q, eq, hq⟩ := rod_ok hp
  obtain ⟨l1, l2⟩ := rod_len hp hq
  obtain ⟨d0, dd, hx, hy, hz, hw, bx, by', bz, bw⟩ := hq
  have big : 549755813888 ≤ q.z := by
    have e1 : 2 * (17592186044416 + d) * q.z = (17592186044416 + d) * (2 * q.z) := by grind
    rw [e1] at hw
    have : (17592186044416 + d) * 1099511627776 ≤ (17592186044416 + d) * (2 * q.z) := by omega
    have := le_of_mul2 (by omega) this
    omega
  obtain ⟨n, r, hu, ⟨n0, n1⟩, _, ⟨n2, n3⟩, ⟨r1, r2, r3, r4⟩, ⟨b1, b2, b3, b4⟩⟩ := unit_gen (q := q) (by omega) (by omega) (by omega) (by omega) (.inr (.inr (.inr big)))
  have hn : -4 ≤ n - 1099511627776 ∧ n - 1099511627776 ≤ 4 := by
    constructor
    · have : 1099511627774 < n + 2 := sq_lt_imp (by omega) (by
        have : (n + 2) * (n + 2) = n * n + 4 * n + 4 := by grind
        omega)
      omega
    · have : n < 1099511627778 := sq_lt_imp (by omega) (by omega)
      omega
  have k1 := near_part hn b1 r1
  have k2 := near_part hn b2 r2
  have k3 := near_part hn b3 r3
  have k4 := near_part hn b4 r4
  have hpl : plain r = r := by
    unfold plain
    rw [decide_eq_false (p := r.z < 0) (by omega)]
    rfl
  obtain ⟨sx, ex, tx⟩ := div_big (x := 4 * r.w) (n := 1099511627776 + r.z) (by omega) (by omega)
  obtain ⟨sy, ey, ty⟩ := div_big (x := 4 * r.x) (n := 1099511627776 + r.z) (by omega) (by omega)
  obtain ⟨sz, ez, tz⟩ := div_big (x := 4 * r.y) (n := 1099511627776 + r.z) (by omega) (by omega)
  have h4 : -(17592186044416 + d) ≤ 2 * (17592186044416 + d) * (1099511627776 + q.z) - 77371252455336267181195264 ∧ 2 * (17592186044416 + d) * (1099511627776 + q.z) - 77371252455336267181195264 ≤ 17592186044416 + d := by
    have e1 : 2 * (17592186044416 + d) * (1099511627776 + q.z) = 2199023255552 * (17592186044416 + d) + 2 * (17592186044416 + d) * q.z := by grind
    rw [e1]
    omega
  refine ⟨r, ⟨sx, sy, sz⟩, ?_, ?_, ?_, ?_, ?_⟩
  · unfold fromRod
    rw [eq]
    dsimp only
    rw [hu, hpl]
  · unfold toRod
    have ha : add4 opsF r false = false := by
      unfold add4
      simp only [opsF]
      rw [add_ok (a := r.w) (b := 0) (by omega) (by omega)]
      dsimp only
      rw [add_ok (a := r.x) (b := 0) (by omega) (by omega)]
      dsimp only
      rw [add_ok (a := r.y) (b := 0) (by omega) (by omega)]
      dsimp only
      rw [add_ok (a := r.z) (b := 0) (by omega) (by omega)]
    dsimp only
    rw [ha, cond_false, hpl]
    unfold torod0 each3 muldiv done3
    simp only [opsF]
    rw [add_ok (a := 1099511627776) (b := r.z) (by omega) (by omega)]
    dsimp only
    rw [(mul_k (x := r.w) (by omega)).2]
    dsimp only
    rw [ex]
    dsimp only
    rw [(mul_k (x := r.x) (by omega)).2]
    dsimp only
    rw [ey]
    dsimp only
    rw [(mul_k (x := r.y) (by omega)).2]
    dsimp only
    rw [ez]
    rfl
  · exact back_part (by omega) hp.x k1 k4 hx h4 rfl (by omega) tx
  · exact back_part (by omega) hp.y k2 k4 hy h4 rfl (by omega) ty
  · exact back_part (by omega) hp.z k3 k4 hz h4 rfl (by omega) tz
end Go.Ab
