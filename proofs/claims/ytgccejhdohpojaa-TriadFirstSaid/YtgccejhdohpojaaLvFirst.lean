/- A part of the proof of 'TriadFirst': lemmas, no statement of their own; no condition. -/
import Derived.Test.YtgccejhdohpojaaNwAll
import Derived.Test.YtgccejhdohpojaaLvKeeps
/- TriadFirst: the attitude takes the sky's first direction to the body's first one. -/
namespace Go.Ab
open Go Go.Proofs
def longK {α : Type} (nm : Bool → V3 × Unit → Int × Bool) (a : V3) (no yes : α) : α :=
  let n := nm false (a, ())
  bif !n.2 then bif decide (n.1 ≥ 1099511627776) then bif !(decide (n.1 ≤ 1099511627776000)) then no else yes else no else no
theorem law31 (at' : Bool → P2 × P2 × Unit → V4 × Bool) (nm : Bool → V3 × Unit → Int × Bool) (un : Bool → V3 × Unit → V3 × Bool) (tu : Bool → V4 × V3 × Unit → V3 × Bool) (x0 x1 x2 y0 y1 y2 u0 u1 u2 v0 v1 v2 : Int) :
    fnSum Try.prog { gam := [(95, S0 fun (_ : Unit) => true), (98, S 25 at'), (66, S 25 nm), (68, S 25 un), (87, S 25 tu)] } [] 20 31 (List.map AV.val [.agg #[.int .i64 x0, .int .i64 x1, .int .i64 x2, .int .i64 y0, .int .i64 y1, .int .i64 y2], .agg #[.int .i64 u0, .int .i64 u1, .int .i64 u2, .int .i64 v0, .int .i64 v1, .int .i64 v2]]) [] =
      let sky := P2.mk ⟨x0, x1, x2⟩ ⟨y0, y1, y2⟩; let body := P2.mk ⟨u0, u1, u2⟩ ⟨v0, v1, v2⟩
      longK nm sky.a (say true) (longK nm sky.b (say true) (longK nm body.a (say true) (longK nm body.b (say true)
        (let q := at' false (sky, body, ())
        bif q.2 then say (v4b q.1 V4.zero) else
          let a := un q.2 (sky.a, ())
          let t := tu a.2 (q.1, a.1, ())
          let b := un t.2 (body.a, ())
          nearK t.1 b.1 4096 sayF (say (!b.2)))))) := by kernel_rfl
theorem longK_cases {α : Type} (a : V3) (no yes : α) : longK (vnorm opsF) a no yes = no ∨ (longK (vnorm opsF) a no yes = yes ∧ ∃ n, vnorm opsF false (a, ()) = (n, false) ∧ 1099511627776 ≤ n) := by
  unfold longK
  rcases vnorm opsF false (a, ()) with ⟨n, f⟩
  dsimp only
  cases f
  · by_cases h1 : n ≥ 1099511627776
    · rw [decide_eq_true h1]
      by_cases h2 : n ≤ 1099511627776000
      · rw [decide_eq_true h2]; exact .inr ⟨rfl, n, rfl, h1⟩
      · rw [decide_eq_false h2]; exact .inl rfl
    · rw [decide_eq_false h1]; exact .inl rfl
  · exact .inl rfl
theorem TriadFirst_calls (x0 x1 x2 y0 y1 y2 u0 u1 u2 v0 v1 v2 : Int) (w : World) :
    Calls Try.prog 31 #[.agg #[.int .i64 x0, .int .i64 x1, .int .i64 x2, .int .i64 y0, .int .i64 y1, .int .i64 y2], .agg #[.int .i64 u0, .int .i64 u1, .int .i64 u2, .int .i64 v0, .int .i64 v1, .int .i64 v2]] w fun e w' => e = .returned (.bool true) ∧ RowKit.Below w.heap.size w w' := by
  have hG : GamOk Try.prog [(95, S0 fun (_ : Unit) => true), (98, S 25 attitude), (66, S 25 (vnorm opsF)), (68, S 25 (vunit opsF)), (87, S 25 (qturn vopsF))] := .cons ok95 (.cons ok98 (.cons ok66 (.cons ok68 (.cons ok87 .nil))))
  have e := law31 attitude (vnorm opsF) (vunit opsF) (qturn vopsF) x0 x1 x2 y0 y1 y2 u0 u1 u2 v0 v1 v2
  refine calls_of_sum (v := .bool true) hG (e.trans ?_) w
  dsimp only
  generalize (⟨x0, x1, x2⟩ : V3) = a
  generalize (⟨y0, y1, y2⟩ : V3) = b
  generalize (⟨u0, u1, u2⟩ : V3) = c
  generalize (⟨v0, v1, v2⟩ : V3) = d
  rcases longK_cases a (say true) _ with h | ⟨h, n1, h1, g1⟩
  · rw [h]; rfl
  rw [h]
  rcases longK_cases b (say true) _ with h | ⟨h, n2, h2, g2⟩
  · rw [h]; rfl
  rw [h]
  rcases longK_cases c (say true) _ with h | ⟨h, n3, h3, g3⟩
  · rw [h]; rfl
  rw [h]
  rcases longK_cases d (say true) _ with h | ⟨h, n4, h4, g4⟩
  · rw [h]; rfl
  rw [h]
  obtain ⟨u, w1, c1, k1, hs, dt, hd⟩ := frame_at (p := ⟨a, b⟩) h1 g1 h2 g2
  obtain ⟨u', w2, c2, k2, hb, dt', hd'⟩ := frame_at (p := ⟨c, d⟩) h3 g3 h4 g4
  rcases att_ok hs hd hb hd' with h | ⟨q, v, x, v', x', hq, _, _, _, _, hQ, hD⟩
  · rw [h]; rfl
  · rw [hq]
    dsimp only
    have ea : vunit opsF false (a, ()) = (u, false) := hs.ha
    have eb : vunit opsF false (c, ()) = (u', false) := hb.ha
    have hu : Up 1099511627776 u := ⟨hs.su.x, hs.su.y, hs.su.z⟩
    have hu' : Up 1099511627776 u' := ⟨hb.su.x, hb.su.y, hb.su.z⟩
    rw [ea]
    dsimp only
    obtain ⟨r, hr, rx, ry, rz⟩ := turn_unit (K := 1099511627776) (by omega) (by omega) hQ.v hQ.s hu
    obtain ⟨⟨a1, a2⟩, ⟨b1, b2⟩, ⟨e1, e2⟩⟩ := dunit_turn hQ hD hu hu' ⟨rx, ry, rz⟩
    rw [hr]
    dsimp only
    rw [eb]
    dsimp only
    rw [cond_false, nearK_yes (by omega) ⟨by omega, by omega⟩ ⟨by omega, by omega⟩ ⟨by omega, by omega⟩]
    rfl
end Go.Ab
