/- A part of the proof of 'MatSolved': lemmas, no statement of their own; no condition. -/
import Derived.Test.YtgccejhdohpojaaNuAll
import Derived.Test.YtgccejhdohpojaaLvQuat
import Derived.Test.YtgccejhdohpojaaLvOne
import Derived.Test.YtgccejhdohpojaaFxAll
/- QuatKeeps: a turn keeps a length, and what is turned back is what it was. -/
namespace Go.Ab
open Go Go.Proofs
def near1 {α : Type} (x y k : Int) (no yes : α) : α := bif decide (IntKind.i64.wrap (x - y) > k) then no else bif decide (IntKind.i64.wrap (x - y) < -k) then no else yes
def nearK {α : Type} (a b : V3) (k : Int) (no yes : α) : α := near1 a.x b.x k no (near1 a.y b.y k no (near1 a.z b.z k no yes))
theorem law25 (un : Bool → V4 × Unit → V4 × Bool) (tu : Bool → V4 × V3 × Unit → V3 × Bool) (nm : Bool → V3 × Unit → Int × Bool) (bk : V4 × Unit → V4) (q0 q1 q2 q3 x0 x1 x2 : Int) :
    fnSum Try.prog { gam := [(70, S0 fun (_ : Unit) => true), (72, S 25 un), (87, S 25 tu), (66, S 25 nm), (91, S0 bk)] } [] 20 25 (List.map AV.val [.agg #[.int .i64 q0, .int .i64 q1, .int .i64 q2, .int .i64 q3], .agg #[.int .i64 x0, .int .i64 x1, .int .i64 x2]]) [] =
      let v := V3.mk x0 x1 x2
      let u := un false (⟨q0, q1, q2, q3⟩, ())
      bif !!u.2 then say true else nearK v V3.zero 1099511627776 (say true)
        (let t := tu false (u.1, v, ())
        let m := nm t.2 (t.1, ())
        let n := nm m.2 (v, ())
        let b := tu n.2 (bk (u.1, ()), t.1, ())
        let d := IntKind.i64.wrap (m.1 - n.1)
        bif !b.2 then bif decide (d ≤ 1024) then bif decide (d ≥ -1024) then nearK b.1 v 1024 sayF (say true) else sayF else sayF else sayF) := by kernel_rfl
theorem near1_yes {α : Type} {x y k : Int} (h : -k ≤ x - y ∧ x - y ≤ k) (hk : k ≤ 4611686018427387904) (no yes : α) : near1 x y k no yes = yes := by
  unfold near1
  rw [wrap_i64_id (z := x - y) (by omega) (by omega), decide_eq_false (p := x - y > k) (by omega), decide_eq_false (p := x - y < -k) (by omega)]
  rfl
theorem near1_cases {α : Type} {x k : Int} (hx : i64? x = true) (no yes : α) : near1 x 0 k no yes = no ∨ (near1 x 0 k no yes = yes ∧ -k ≤ x ∧ x ≤ k) := by
  simp only [i64?, decide_eq_true_eq] at hx
  unfold near1
  rw [Int.sub_zero, wrap_i64_id (z := x) (by omega) (by omega)]
  by_cases h1 : x > k
  · rw [decide_eq_true h1]; exact .inl rfl
  · rw [decide_eq_false h1]
    by_cases h2 : x < -k
    · rw [decide_eq_true h2]; exact .inl rfl
    · rw [decide_eq_false h2]; exact .inr ⟨rfl, by omega, by omega⟩
theorem nearK_cases {α : Type} {v : V3} {k : Int} (hx : i64? v.x = true) (hy : i64? v.y = true) (hz : i64? v.z = true) (no yes : α) : nearK v V3.zero k no yes = no ∨ (nearK v V3.zero k no yes = yes ∧ Up k v) := by
  unfold nearK
  rcases near1_cases (k := k) hx no (near1 v.y V3.zero.y k no (near1 v.z V3.zero.z k no yes)) with h | ⟨h, bx⟩
  · exact .inl h
  · rcases near1_cases (k := k) hy no (near1 v.z V3.zero.z k no yes) with h2 | ⟨h2, by'⟩
    · exact .inl (h.trans h2)
    · rcases near1_cases (k := k) hz no yes with h3 | ⟨h3, bz⟩
      · exact .inl (h.trans (h2.trans h3))
      · exact .inr ⟨h.trans (h2.trans h3), bx, by', bz⟩
theorem nearK_yes {α : Type} {a b : V3} {k : Int} (hk : k ≤ 4611686018427387904) (hx : -k ≤ a.x - b.x ∧ a.x - b.x ≤ k) (hy : -k ≤ a.y - b.y ∧ a.y - b.y ≤ k) (hz : -k ≤ a.z - b.z ∧ a.z - b.z ≤ k) (no yes : α) : nearK a b k no yes = yes := by
  unfold nearK
  rw [near1_yes hx hk, near1_yes hy hk, near1_yes hz hk]
theorem qback_ok {u : V4} (h : QU u) : qback (u, ()) = ⟨-u.w, -u.x, -u.y, u.z⟩ := by
  have hx := h.v.x
  have hy := h.v.y
  have hz := h.v.z
  have e : ∀ x : Int, -1099511627776 ≤ x ∧ x ≤ 1099511627776 → nb x = -x := by
    intro x hx
    unfold nb
    rw [decide_eq_true (p := x ≤ 4611686018427387904) (by omega), decide_eq_true (p := x ≥ -4611686018427387904) (by omega), cond_true, cond_true, wrap_neg hx]
  unfold qback
  dsimp only
  rw [e u.w hx, e u.x hy, e u.y hz]
/-- A turn's parts are small. -/
theorem turn_up {u : V4} {v t : V3} {L : Int} (hu : QU u) (hv : Up L v) (ht : Off3 t (T3 u.v u.s v) 9671406556917033397649408) : Up (13 * L + 8) t := by
  have hb := T3_bound hu.v hu.s hv
  have ax := hb.x
  have ay := hb.y
  have az := hb.z
  have bx := ht.x
  have by' := ht.y
  have bz := ht.z
  unfold Off at bx by' bz
  simp only [O2] at *
  exact ⟨by omega, by omega, by omega⟩
theorem norm_up {t : V3} {K : Int} (hK : K ≤ 1152921504606846976) (ht : Up K t) : ∃ r, fnorm false t.x t.y t.z = (r, false) ∧ 0 ≤ r ∧ r ≤ 2305843009213693952 ∧ r * r ≤ len2 t ∧ len2 t < (r + 1) * (r + 1) := by
  have hx := ht.x
  have hy := ht.y
  have hz := ht.z
  have q1 := mul_bound (x := t.x) (y := t.x) (K := 1152921504606846976) (L := 1152921504606846976) (by omega) (by omega)
  have q2 := mul_bound (x := t.y) (y := t.y) (K := 1152921504606846976) (L := 1152921504606846976) (by omega) (by omega)
  have q3 := mul_bound (x := t.z) (y := t.z) (K := 1152921504606846976) (L := 1152921504606846976) (by omega) (by omega)
  have s1 := sq_nonneg t.x
  have s2 := sq_nonneg t.y
  have s3 := sq_nonneg t.z
  have e126 : (2 : Int) ^ 126 = 85070591730234615865843651857942052864 := by decide
  obtain ⟨i0, i1, i2, i3⟩ := isq_spec (W := t.x * t.x + t.y * t.y + t.z * t.z) (by omega) (by omega)
  have hle : isq (t.x * t.x + t.y * t.y + t.z * t.z) ≤ 2305843009213693952 := by
    have : isq (t.x * t.x + t.y * t.y + t.z * t.z) < 2305843009213693952 := sq_lt_imp (by omega) (by omega)
    omega
  refine ⟨isq (t.x * t.x + t.y * t.y + t.z * t.z), ?_, i0, hle, i2, i3⟩
  unfold fnorm
  have e : (false || !nums? [t.x, t.y, t.z]) = false := by simp [nums?, num_small (x := t.x) (by omega) (by omega), num_small (x := t.y) (by omega) (by omega), num_small (x := t.z) (by omega) (by omega)]
  rw [e, cond_false, decide_eq_false (p := isq (t.x * t.x + t.y * t.y + t.z * t.z) > 4611686018427387904) (by omega)]
  rfl
theorem QuatKeeps_calls (q0 q1 q2 q3 x0 x1 x2 : Int) (_ : (Lit.int .i64 q0).wf = true) (_ : (Lit.int .i64 q1).wf = true) (_ : (Lit.int .i64 q2).wf = true) (_ : (Lit.int .i64 q3).wf = true) (w0 : (Lit.int .i64 x0).wf = true) (w1 : (Lit.int .i64 x1).wf = true) (w2 : (Lit.int .i64 x2).wf = true) (w : World) :
    Calls Try.prog 25 #[.agg #[.int .i64 q0, .int .i64 q1, .int .i64 q2, .int .i64 q3], .agg #[.int .i64 x0, .int .i64 x1, .int .i64 x2]] w fun e w' => e = .returned (.bool true) ∧ RowKit.Below w.heap.size w w' := by
  have hG : GamOk Try.prog [(70, S0 fun (_ : Unit) => true), (72, S 25 (qunit opsF)), (87, S 25 (qturn vopsF)), (66, S 25 (vnorm opsF)), (91, S0 qback)] := .cons ok70 (.cons ok72 (.cons ok87 (.cons ok66 (.cons ok91 .nil))))
  have e := law25 (qunit opsF) (qturn vopsF) (vnorm opsF) qback q0 q1 q2 q3 x0 x1 x2
  refine calls_of_sum (v := .bool true) hG (e.trans ?_) w
  dsimp only
  rcases hq : qunit opsF false (⟨q0, q1, q2, q3⟩, ()) with ⟨u, f⟩
  dsimp only
  cases f
  · have hu := qunit_ok hq
    simp only [Bool.not_false, Bool.not_true, cond_false]
    rcases nearK_cases (v := ⟨x0, x1, x2⟩) (k := 1099511627776) (i64_of w0) (i64_of w1) (i64_of w2) (say true) _ with h | ⟨h, hv⟩
    · rw [h]; rfl
    · rw [h]
      obtain ⟨t, ht, tx, ty, tz⟩ := turn_unit (K := 1099511627776) (by omega) (by omega) hu.v hu.s hv
      have hT : Off3 t (T3 u.v u.s ⟨x0, x1, x2⟩) 9671406556917033397649408 := ⟨tx, ty, tz⟩
      have htu := turn_up hu hv hT
      obtain ⟨m, hm, m0, m1, m2, m3⟩ := norm_up (by omega) htu
      obtain ⟨n, hn, n0, n1, n2, n3⟩ := norm_up (t := ⟨x0, x1, x2⟩) (K := 1099511627776) (by omega) hv
      have hbq : Up 1099511627776 (V4.v ⟨-u.w, -u.x, -u.y, u.z⟩) := hu.v.neg
      obtain ⟨b, hb, bx, by', bz⟩ := turn_unit (u := ⟨-u.w, -u.x, -u.y, u.z⟩) (v := t) (K := 13 * 1099511627776 + 8) (by omega) (by omega) hbq hu.s htu
      obtain ⟨r1, r2, r3⟩ := near_back (b := b) hu hv hT ⟨bx, by', bz⟩
      obtain ⟨d1, d2⟩ := keeps_len hu hv hT n0 m0 n2 n3 m2 m3
      dsimp only at r1 r2 r3
      have hm' : vnorm opsF false (t, ()) = (m, false) := hm
      have hn' : vnorm opsF false (⟨x0, x1, x2⟩, ()) = (n, false) := hn
      rw [ht]
      dsimp only
      rw [hm']
      dsimp only
      rw [hn']
      dsimp only
      rw [qback_ok hu, hb]
      dsimp only
      rw [wrap_i64_id (z := m - n) (by omega) (by omega), decide_eq_true (p := m - n ≤ 1024) (by omega), decide_eq_true (p := m - n ≥ -1024) (by omega), nearK_yes (by omega) ⟨by show _ ≤ b.x - x0; omega, by show b.x - x0 ≤ _; omega⟩ ⟨by show _ ≤ b.y - x1; omega, by show b.y - x1 ≤ _; omega⟩ ⟨by show _ ≤ b.z - x2; omega, by show b.z - x2 ≤ _; omega⟩]
      rfl
  · rfl
end Go.Ab
